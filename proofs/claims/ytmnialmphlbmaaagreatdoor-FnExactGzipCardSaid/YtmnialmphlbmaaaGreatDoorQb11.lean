import Derived.Test.YtmnialmphlbmaaaGreatDoorQb4
import Derived.Test.YtmnialmphlbmaaaGreatDoorQb5
import Derived.Test.YtmnialmphlbmaaaGreatDoorQb6
import Derived.Test.YtmnialmphlbmaaaGreatDoorQb7
import Derived.Test.YtmnialmphlbmaaaGreatDoorQb8
import Derived.Test.YtmnialmphlbmaaaGreatDoorQb10
set_option maxRecDepth 100000
set_option maxHeartbeats 8000000
set_option linter.unusedVariables false
set_option linter.unusedSimpArgs false
set_option linter.unusedSectionVars false
namespace Go.Proofs.YtmnialmphlbmaaaGreatDoor
open Go Go.Eng Go.IntWalk
section
section
variable {s : Nat -> Prop} {h h0 h' : Eng.Heap} {bm : Nat} {N N' : Nat -> Prop}
def el8(m:GM)(u:Value×Value×Value):List Value:=[.int .i64 m.1,.int .i64 m.2.1,.int .i64 m.2.2.1,.int .i64 m.2.2.2.1,u.1,u.2.1,u.2.2,.int .i64 m.2.2.2.2.2.2.2]
def yv:List GM->List (Value×Value×Value)->List Value
 | m::ms,u::us=>el8 m u++yv ms us
 | _,_=>[]
def OG1(h:Eng.Heap)(N:Nat->Prop)(m:GM)(u:Value×Value×Value):Prop:=
 Part .u8 h u.1 m.2.2.2.2.1/\Part .u8 h u.2.1 m.2.2.2.2.2.1/\Part .u8 h u.2.2 m.2.2.2.2.2.2.1/\∀y,(zd u.1=some y\/zd u.2.1=some y\/zd u.2.2=some y)->N y
def OGs(h:Eng.Heap)(N:Nat->Prop):List GM->List (Value×Value×Value)->Prop
 | [],[]=>True
 | m::ms,u::us=>OG1 h N m u/\OGs h N ms us
 | _,_=>False
theorem OG1.keep{m:GM}{u:Value×Value×Value}(H:OG1 h N m u)(f:∀y,h y≠none->N y->h' y=h y/\N' y):OG1 h' N' m u:=by
 obtain⟨P1,P2,P3,n⟩:=H
 exact⟨P1.keep fun y hy=>(f y (P1.held y hy) (n y (.inl hy))).1,P2.keep fun y hy=>(f y (P2.held y hy) (n y (.inr (.inl hy)))).1,P3.keep fun y hy=>(f y (P3.held y hy) (n y (.inr (.inr hy)))).1,
  fun y hy=>by
   have hh:h y≠none:=by rcases hy with e | e | e;exact P1.held y e;exact P2.held y e;exact P3.held y e
   exact(f y hh (n y hy)).2⟩
theorem OGs.keep(f:∀y,h y≠none->N y->h' y=h y/\N' y):∀ {ms:List GM} {us:List (Value×Value×Value)},OGs h N ms us->OGs h' N' ms us
 | [],[],_=>trivial
 | m::ms,u::us,H=>⟨H.1.keep f,OGs.keep f H.2⟩
 | [],_::_,H=>H.elim
 | _::_,[],H=>H.elim
theorem OGs.app{m:GM}{u:Value×Value×Value}(H1:OG1 h N m u):∀ {ms:List GM} {us:List (Value×Value×Value)},OGs h N ms us->OGs h N (ms++[m]) (us++[u])
 | [],[],_=>⟨H1,trivial⟩
 | _::_,_::_,H=>⟨H.1,OGs.app H1 H.2⟩
 | [],_::_,H=>H.elim
 | _::_,[],H=>H.elim
theorem BH{m:GM}{u:Value×Value×Value}:∀ {ms:List GM} {us:List (Value×Value×Value)},OGs h N ms us->yv (ms++[m]) (us++[u])=yv ms us++el8 m u
 | [],[],_=>by simp[yv]
 | _::_,_::_,H=>by simp only[vJ,yv];rw[BH H.2,List.append_assoc]
 | [],_::_,H=>H.elim
 | _::_,[],H=>H.elim
def qE(bs:List Int):Int×List Int×List GM×Int:=if bs.length>65536 then(7,[],[],0)else if(Gm bs).1.k≠0 then((Gm bs).1.k,(Gm bs).2.1,(Gm bs).2.2,0)else(1,(Gm bs).2.1,(Gm bs).2.2,(bs.length:Int))
def PGz(h:Eng.Heap)(X:Int×List Int×List GM×Int)(v:Value)(h':Eng.Heap):Prop:=
 ∃(a:Option Addr) (c:Nat) (vm:Value) (us:List (Value×Value×Value)),v=.agg #[.int .i64 X.1,.slice a X.2.1.length c,vm,.int .i64 X.2.2.2]/\Part .u8 h' (.slice a X.2.1.length c) X.2.1/\Eng.New h (.slice a X.2.1.length c) /\
  yE 8 h' vm X.2.2.1.length (yv X.2.2.1 us)/\Eng.New h vm/\OGs h' (fun y=>h y=none) X.2.2.1 us/\Eng.Sub h h'
def Ii(v:Value):List Nat:=(zd v).toList
theorem xL{v:Value}{y:Nat}:y∈Ii v<->zd v=some y:=by unfold Ii;simp[eq_comm]
def kQ(u:Value×Value×Value):List Nat:=Ii u.1++(Ii u.2.1++Ii u.2.2)
def yy(us:List (Value×Value×Value)):List Nat:=us.flatMap kQ
theorem yq{u:Value×Value×Value}{y:Nat}:y∈kQ u<->zd u.1=some y\/zd u.2.1=some y\/zd u.2.2=some y:=by unfold kQ;simp only[List.mem_append,xL]
theorem EJ{v:Value}:(Ii v).Nodup:=by unfold Ii;cases zd v <;> simp
theorem Qp{u:Value×Value×Value}(D:D3 u.1 u.2.1 u.2.2):(kQ u).Nodup:=by
 unfold kQ
 refine List.nodup_append.2 ⟨EJ,List.nodup_append.2 ⟨EJ,EJ,fun x hx y hy e=>?_⟩,fun x hx y hy e=>?_⟩
 ·subst e;exact D.2.2 x (xL.1 hx) (xL.1 hy)
 ·subst e
  rcases List.mem_append.1 hy with hy | hy
  ·exact D.1 x (xL.1 hx) (xL.1 hy)
  ·exact D.2.1 x (xL.1 hx) (xL.1 hy)
theorem OGs.mem:∀ {ms:List GM} {us:List (Value×Value×Value)},OGs h N ms us->∀y∈yy us,h y≠none/\N y
 | [],[],_,y,hy=>by cases hy
 | m::ms,u::us,H,y,hy=>by
  have hy:y∈kQ u++yy us:=hy
  rcases List.mem_append.1 hy with hy | hy
  ·have g:=yq.1 hy
   refine⟨?_,H.1.2.2.2 y g⟩
   rcases g with g | g | g
   ·exact H.1.1.held y g
   ·exact H.1.2.1.held y g
   ·exact H.1.2.2.1.held y g
  ·exact OGs.mem H.2 y hy
 | [],_::_,H,_,_=>H.elim
 | _::_,[],H,_,_=>H.elim
theorem J1{u:Value×Value×Value}{us:List (Value×Value×Value)}(H:(yy us).Nodup)(D:D3 u.1 u.2.1 u.2.2)(far:∀y∈kQ u,y∉yy us):(yy (us++[u])).Nodup:=by
 have e:yy (us++[u])=yy us++kQ u:=by simp[yy]
 rw[e]
 exact List.nodup_append.2 ⟨H,Qp D,fun x hx y hy e=>by subst e;exact far x hy hx⟩
def PGd(h:Eng.Heap)(X:Int×List Int×List GM×Int)(v:Value)(h':Eng.Heap):Prop:=
 ∃(a:Option Addr) (c:Nat) (vm:Value) (us:List (Value×Value×Value)),v=.agg #[.int .i64 X.1,.slice a X.2.1.length c,vm,.int .i64 X.2.2.2]/\Part .u8 h' (.slice a X.2.1.length c) X.2.1/\Eng.New h (.slice a X.2.1.length c) /\
  yE 8 h' vm X.2.2.1.length (yv X.2.2.1 us)/\Eng.New h vm/\OGs h' (fun y=>h y=none/\zd (.slice a X.2.1.length c)≠some y/\zd vm≠some y) X.2.2.1 us/\(∀y,zd vm=some y->zd (.slice a X.2.1.length c)≠some y)/\(yy us).Nodup/\Eng.Sub h h'
theorem PGd.gz{X:Int×List Int×List GM×Int}{v:Value}(H:PGd h X v h'):PGz h X v h':=by
 obtain⟨a,c,vm,us,e,h1,h2,h3,h4,h5,_,_,h8⟩:=H
 exact⟨a,c,vm,us,e,h1,h2,h3,h4,h5.keep fun y _ g=>⟨rfl,g.1⟩,h8⟩
def posOf(h:Eng.Heap)(bm:Nat):Nat:=match ze h ⟨bm,1,none⟩with
 | some (.int _ x)=>x.toNat
 | _=>0
theorem Xe{n:Nat}{r:Rd}{bs:List Int}(h:(tk bs n r).1.k=0):r.k=0/\(tk bs n r).1.i=r.i+n:=⟨Cz h,Gc h⟩
theorem Nj{K:Int}{w:Bool}{r:Rd}(hK:K≠0):le2 r (bdK K w r):=fun h=>by
 unfold bdK at h ⊢
 split at h
 ·exact absurd h hK
 ·rename_i g;rw[if_neg g];exact⟨h,by omega⟩
theorem Ss{bs:List Int}{r:Rd}:le2 r (bk3 bs r):=fun h=>⟨(Ji h).1,by have:=(Ji h).2;omega⟩
theorem OT{bs:List Int}{dl room sz F:Nat}:∀ {f:Nat} {r:Rd} {al:List Int},le2 r (blF bs dl room sz F f r al).1
 | 0,r,al=>fun h=>⟨h,by unfold blF;simp⟩
 | f+1,r,al=>by
  unfold blF
  split
  ·split
   ·exact(Ss).trans M3
   ·exact(Ss.trans M3).trans OT
  ·exact fun h=>⟨h,by simp⟩
theorem Nk{bs:List Int}{told:Nat}{r:Rd}(h:(gC2 bs told r).k=0):r.k=0/\r.i+8<=(gC2 bs told r).i:=by
 have a1:le2 (tk bs 8 r).1 (gh1 bs r):=xj
 have a2:le2 (gh1 bs r) (gh2 bs r):=yd.trans xj
 have a3:le2 (gh2 bs r) (gh3 bs r):=yd.trans xj
 have a4:le2 (gh3 bs r) (gh4 bs r):=yd.trans xj
 have a5:le2 (gh4 bs r) (gOs bs r).1:=(yd.trans yd).trans yd
 have a6:le2 (gOs bs r).1 (gCo bs r).1:=by
  have e1:le2 (gOs bs r).1 (gEx bs r).1:=by unfold gEx;split;exact yd.trans J0;exact fun h=>⟨h,by simp⟩
  have e2:le2 (gEx bs r).1 (gNa bs r).1:=by unfold gNa;split;exact Ei;exact fun h=>⟨h,by simp⟩
  have e3:le2 (gNa bs r).1 (gCo bs r).1:=by unfold gCo;split;exact Ei;exact fun h=>⟨h,by simp⟩
  exact(e1.trans e2).trans e3
 have a7:le2 (gCo bs r).1 (gHd bs r):=by
  unfold gHd;split
  ·exact yd.trans (Nj (by decide))
  ·exact fun h=>⟨h,by simp⟩
 have a8:le2 (gHd bs r) (gSt bs told r).1:=OT
 have a9:le2 (gSt bs told r).1 (gC1 bs told r):=(Mw.trans yd).trans (Nj (by decide))
 have a10:le2 (gC1 bs told r) (gC2 bs told r):=yd.trans (Nj (by decide))
 obtain⟨b1,b2⟩:=((((((((a1.trans a2).trans a3).trans a4).trans a5).trans a6).trans a7).trans a8).trans a9).trans a10 h
 obtain⟨c1,c2⟩:=Xe b1
 exact⟨c1,by omega⟩
theorem J2{bs:List Int}{f:Nat}{r:Rd}{xs:List Int}{ms:List GM}(h:¬(r.k=0/\(r.i<8*(bs.length:Int)\/ms=[]))):gZ bs f r xs ms=(r,xs,ms):=by
 cases f with
 | zero=>rfl
 | succ f=>unfold gZ;rw[if_neg h]
theorem Gq(hi:Eng.Inv (yo Tryz.prog s) h)(G:ErrS h)(E:E9 h){v:Value}{bs:List Int}(O:tB.O h v bs)(hb:okB bs)(L:PI bs) :
  zb Tryz.prog (yo Tryz.prog s) AL #[v] h (PGd h (qE bs)):=by
 obtain⟨a,c,rfl,hc,hx⟩:=Part.ints O
 have hL:bs.length<=1048576:=L
 refine Ll (vs:=[.slice a bs.length c]) ⟨rfl,trivial⟩ hi ?_
 simp only[Hq,Tr.wp,zA,Ex.ev,coerce,toInt_int,zc,zg,zk,zh,zf,zB,arith,Cst.val,SV.den,zr,zF,zz,zn,zl,yp,zx,zJ,zt,vF,vG,List.replicate_one,vA,vB,vC,List.getElem?_cons_succ,decide_eq_true_eq,decide_eq_false_iff_not,vD,vE,vJ,vI,vK,List.length_cons,List.length_nil,Nat.zero_add,Nat.add_zero,and_true,if_true,if_false,vL,zo]
 refine⟨fun hgt=>?_,fun hle=>?_⟩
 ·have e:qE bs=(7,[],[],0):=if_pos (by omega)
  rw[e]
  exact⟨none,0,.slice none 0 0,[],rfl,Part.nil,fun y hy=>(by cases hy),yE.nil,fun y hy=>(by cases hy),trivial,fun y hy=>(by cases hy),List.nodup_nil,fun _ _ e=>e⟩
 intro bm hbm
 have eM:(Obj.cells (Value.slice a bs.length c::Value.int .i64 0::Value.pointer none::Value.slice none 0 0::Value.int .i64 100000::Value.bool false::List.replicate 2 (Value.pointer none)).toArray 59)=zM a c bs ((0:Nat):Int) ⟨.pointer none,.slice none 0 0,100000,false,.pointer none,.pointer none⟩ 59:=rfl
 rw[eM]
 have M0:MO h (upd h bm (zM a c bs ((0:Nat):Int) ⟨.pointer none,.slice none 0 0,100000,false,.pointer none,.pointer none⟩ 59)) bm a c bs 59 ⟨0,0⟩ [] none 0:=
  ⟨⟨0,_,_,_,_,by omega,fun _=>rfl,upd_same⟩,Part.nil,fun y hy=>(by cases hy),Sub.zE hbm,by simp⟩
 generalize upd h bm (zM a c bs ((0:Nat):Int) ⟨.pointer none,.slice none 0 0,100000,false,.pointer none,.pointer none⟩ 59)=h1 at M0 ⊢
 refine⟨fun us h'=>∃(f:Nat) (r:Rd) (xs:List Int) (ms:List GM) (ao:Option Addr) (co:Nat) (vm:Value) (usl:List (Value×Value×Value)),us=[.bool (decide (ms=[])),vm]/\8*(bs.length:Int)+16<=r.i+8*f/\8*(ms.length:Int)<=r.i/\r.k=0/\0<=r.i/\r.i<=8*(bs.length:Int)/\MO h h' bm a c bs 59 r xs ao co /\
   yE 8 h' vm ms.length (yv ms usl)/\Eng.New h vm/\(∀y,zd vm=some y->y≠bm/\zd (.slice ao xs.length co)≠some y)/\OGs h' (fun y=>h y=none/\y≠bm/\zd (.slice ao xs.length co)≠some y/\zd vm≠some y) ms usl/\gZ bs f r xs ms=Gm bs/\(yy usl).Nodup,
  fun us h'=>8*bs.length-posOf h' bm,⟨bs.length+2,⟨0,0⟩,[],[],none,0,.slice none 0 0,[],rfl,by simp only;omega,by simp,rfl,by simp,by simp only;omega,M0,yE.nil,fun y hy=>(by cases hy),fun y hy=>(by cases hy),trivial,rfl,List.nodup_nil⟩,?_⟩
 rintro x a1 l1 c1 h' ⟨f,r,xs,ms,ao,co,vm,usl,hx1,hf,hml,hk,hr0,hr1,M,Ow,Nv,vN,OG,e,nd⟩
 simp only[List.cons.injEq,Value.bool.injEq,and_true]at hx1
 obtain⟨rfl,rfl⟩:=hx1
 obtain⟨p,w,last,l,d,hp,hrp,hm⟩:=id M.mt
 have er:=hrp hk
 have wp:IntKind.i64.wrap ((p:Int).tdiv 8)=((p/8:Nat):Int):=by rw[Int.tdiv_eq_ediv_of_nonneg (by omega),i64_in _ (by omega)];omega
 refine⟨fun hx2=>?_,fun hx2=>?_⟩
 ·have hms:ms ≠ []:=by simpa using hx2
  refine⟨_,(zX hm).2.1,fun _=>?_⟩
  rw[wp]
  refine⟨fun hlt=>?_,fun hge=>?_⟩
  ·have hcd:r.i<8*(bs.length:Int)\/ms=[]:=.inl (by rw[er];show(p:Int)<_;omega)
   obtain⟨f1,rfl⟩:∃f1,f=f1+1:=⟨f-1,by omega⟩
   rw[gZ,if_pos ⟨hk,hcd⟩]at e
   refine zb.mono (Ni hi G hx (by omega) hc hb hbm M hk) ?_
   rintro _ h2 ⟨fl,mt,xf,os,u4,u5,u6,sz,ao',co',rfl,M2,fr,oh,⟨a4,l4,c4,a5,l5,c5,a6,l6,c6,rfl,rfl,rfl⟩,wD⟩
   obtain⟨p2,w2,last2,l2,d2,hp2,hrp2,hm2⟩:=id M2.mt
   have vk:∀y,zd (.slice a1 l1 c1)=some y->h' y≠none/\h2 y=h' y:=fun y hy=>⟨Ow.held y hy,fr y (Ow.held y hy) (vN y hy).1 (vN y hy).2⟩
   refine⟨_,_,_,_,_,_,_,_,_,_,_,_,_,_,z8 (gC2 bs xs.length r).k,za,by rw[za],fun hz=>?_,fun hz=>?_⟩
   ·have hz:(gC2 bs xs.length r).k≠0:=by simpa[zu,za]using hz
    rw[if_neg hz,J2 (fun h=>hz h.1)]at e
    refine⟨_,_,_,(zX hm2).2.2.2.1,?_⟩
    rw[za,O4 hz]
    refine zb.mono (KI (hi.sub M2.sb) (E.sub M2.sb)) ?_
    rintro _ h4 ⟨rfl,s4⟩
    have k4:∀y,h2 y≠none->h4 y=h2 y:=fun y hy=>by
     cases ho:h2 y with
     | none=>exact absurd ho hy
     | some o=>exact s4 y o ho
    have eA:qE bs=((gC2 bs xs.length r).k,xs++(gSt bs xs.length r).2,ms,0):=by unfold qE;rw[if_neg (by omega),<-e,if_pos hz]
    refine⟨_,rfl,fun pp hpp=>?_,?_⟩
    ·obtain rfl:=List.mem_singleton.1 hpp
     simp only[Ex.ev,coerce,zg,zk,zh,zf,vA,vB,Nat.zero_add,Nat.add_zero,zo,zf]
     exact xO s4 (zX hm2).2.2.2.1
    ·rw[eA]
     refine⟨ao',co',_,usl,rfl,M2.pt.sub s4,fun y hy=>(M2.nw y hy).1,Ow.keep fun y hy=>?_,Nv,OG.keep fun y g1 g2=>?_,fun y hy e=>(oh y e).elim (vk y hy).1 (vN y hy).2,nd,M2.sb.trans s4⟩
     ·obtain⟨g1,g2⟩:=vk y hy
      rw[k4 y (by rw[g2];exact g1),g2]
     ·have g3:=fr y g1 g2.2.1 g2.2.2.1
      exact⟨by rw[k4 y (by rw[g3];exact g1),g3],g2.1,fun e=>(oh y e).elim g1 g2.2.2.1,g2.2.2.2⟩
   ·have hz:(gC2 bs xs.length r).k=0:=by simpa[zu,za]using hz
    rw[if_pos hz]at e
    obtain⟨rfl,rfl,rfl,rfl,rfl,P4,P5,P6,dd⟩:=wD hz
    obtain⟨_,far⟩:=Nk hz
    have er2:=hrp2 hz
    have ei2:(gC2 bs xs.length r).i=(p2:Int):=by rw[er2]
    have ei:r.i=(p:Int):=by rw[er]
    intro b1 hb1
    have nb1:∀y,h2 y≠none->y≠b1:=fun y hy e=>hy (e▸hb1)
    have eC:(Obj.cells #[Value.int .i64 (gFl bs r),Value.int .i64 (gMt bs r).2,Value.int .i64 (gXf bs r).2,Value.int .i64 (gOs bs r).2,.slice a4 l4 c4,.slice a5 l5 c5,.slice a6 l6 c6,Value.int .i64 ((gSt bs xs.length r).2.length:Int)] 65)=.cells (el8 (xK bs xs.length r) (.slice a4 l4 c4,.slice a5 l5 c5,.slice a6 l6 c6)).toArray 65:=rfl
    rw[eC]
    have s1:Eng.Sub h2 (upd h2 b1 (.cells (el8 (xK bs xs.length r) (.slice a4 l4 c4,.slice a5 l5 c5,.slice a6 l6 c6)).toArray 65)):=Sub.zE hb1
    have kb:∀y,h2 y≠none->upd h2 b1 (.cells (el8 (xK bs xs.length r) (.slice a4 l4 c4,.slice a5 l5 c5,.slice a6 l6 c6)).toArray 65) y=h2 y:=fun y hy=>upd_ne (nb1 y hy)
    have cb:upd h2 b1 (.cells (el8 (xK bs xs.length r) (.slice a4 l4 c4,.slice a5 l5 c5,.slice a6 l6 c6)).toArray 65) b1=some (.cells (el8 (xK bs xs.length r) (.slice a4 l4 c4,.slice a5 l5 c5,.slice a6 l6 c6)).toArray 65):=upd_same
    generalize upd h2 b1 (.cells (el8 (xK bs xs.length r) (.slice a4 l4 c4,.slice a5 l5 c5,.slice a6 l6 c6)).toArray 65)=hC at s1 kb cb ⊢
    refine Gp (S:=yo Tryz.prog s) (h0:=h) (sz:=8) (us:=el8 (xK bs xs.length r) (.slice a4 l4 c4,.slice a5 l5 c5,.slice a6 l6 c6)) hi (M2.sb.trans s1) (Ow.keep fun y hy=>?_) Nv (fun j x hj=>?_) rfl (fun x hx=>?_) rfl (by omega) fun v3 h3 Ow3 Nv3 s3 k3 r3=>?_
    ·obtain⟨g1,g2⟩:=vk y hy
     rw[kb y (by rw[g2];exact g1),g2]
    ·rw[zS]
     simp only[ze,cb,List.getElem?_toArray]
     exact hj
    ·simp only[el8,List.mem_cons,List.not_mem_nil,or_false]at hx
     rcases hx with rfl | rfl | rfl | rfl | rfl | rfl | rfl | rfl <;> exact⟨rfl,fun _ h=>(by cases h),fun _ h=>(by cases h)⟩
    ·obtain⟨a3,c3,rfl⟩:=Ow3.form
     simp only[zh,zg,zk]
     have k2:∀y,h2 y≠none->zd (.slice a1 l1 c1)≠some y->h3 y=h2 y:=fun y g1 g2=>(k3 y (by rw[kb y g1];exact g1) g2).trans (kb y g1)
     have hbm2:h2 bm≠none:=by rw[hm2];simp
     have ob:∀y,zd (.slice ao' (xs++(gSt bs xs.length r).2).length co')=some y->zd (.slice a1 l1 c1)≠some y:=fun y hy g=>by
      rcases oh y hy with g3 | g3
      ·exact(vk y g).1 g3
      ·exact(vN y g).2 g3
     have vb:∀y,h2 y≠none->zd (.slice a1 l1 c1)≠some y->zd (.slice a3 (ms.length+1) c3)≠some y:=fun y g1 g2 g3=>by
      rcases r3 with r3 | r3
      ·exact g2 (r3▸g3)
      ·have:=r3 y g3;rw[kb y g1]at this;exact g1 this
     have m3:h3 bm=h2 bm:=k2 bm hbm2 (fun g=>(vN bm g).1 rfl)
     refine⟨⟨f1,gC2 bs xs.length r,xs++(gSt bs xs.length r).2,ms++[xK bs xs.length r],ao',co',.slice a3 (ms.length+1) c3,usl++[(.slice a4 l4 c4,.slice a5 l5 c5,.slice a6 l6 c6)],by simp,by omega,by rw[List.length_append,List.length_singleton];omega,hz,by omega,by omega,?_,?_,Nv3,?_,?_,e,J1 nd dd fun y hy hm=>(OG.mem y hm).1 (by rcases yq.1 hy with g | g | g;exact(P4.2 y g).1;exact(P5.2 y g).1;exact(P6.2 y g).1)⟩,?_⟩
     ·exact⟨⟨p2,w2,last2,l2,d2,hp2,hrp2,m3.trans hm2⟩,M2.pt.keep fun y hy=>k2 y (M2.pt.held y hy) (ob y hy),M2.nw,s3,M2.le⟩
     ·rw[List.length_append,List.length_singleton,BH OG];exact Ow3
     ·intro y hy
      refine⟨fun g=>?_,fun g=>?_⟩
      ·subst g;exact vb y hbm2 (fun g=>(vN y g).1 rfl) hy
      ·exact vb y (M2.pt.held y g) (ob y g) hy
     ·refine OGs.app ?_ (OG.keep fun y g1 g2=>?_)
      ·have pn:∀ {u:Value} {x:List Int},PU h' h2 bm (.slice ao' (xs++(gSt bs xs.length r).2).length co') u x->Part .u8 h3 u x/\∀y,zd u=some y->h y=none/\y≠bm/\zd (.slice ao' (xs++(gSt bs xs.length r).2).length co')≠some y/\zd (.slice a3 (ms.length+1) c3)≠some y:=fun P=>by
        have q:∀y,zd _=some y->zd (.slice a1 l1 c1)≠some y:=fun y hy g=>(vk y g).1 (P.2 y hy).1
        exact⟨P.1.keep fun y hy=>k2 y (P.1.held y hy) (q y hy),fun y hy=>⟨zK M.sb (P.2 y hy).1,(P.2 y hy).2.1,(P.2 y hy).2.2,vb y (P.1.held y hy) (q y hy)⟩⟩
       exact⟨(pn P4).1,(pn P5).1,(pn P6).1,fun y hy=>by
        rcases hy with g | g | g
        ·exact(pn P4).2 y g
        ·exact(pn P5).2 y g
        ·exact(pn P6).2 y g⟩
      ·have g3:=fr y g1 g2.2.1 g2.2.2.1
       have g4:h2 y≠none:=by rw[g3];exact g1
       refine⟨(k2 y g4 g2.2.2.2).trans g3,g2.1,g2.2.1,fun g=>?_,vb y g4 g2.2.2.2⟩
       rcases oh y g with g5 | g5
       ·exact g1 g5
       ·exact g2.2.2.1 g5
     ·have q1:posOf h' bm=p:=by unfold posOf;rw[(zX hm).2.1];rfl
      have q2:posOf h3 bm=p2:=by unfold posOf;rw[(zX (m3.trans hm2)).2.1];rfl
      simp only[q1,q2]
      omega
  ·have hcd:¬(r.k=0/\(r.i<8*(bs.length:Int)\/ms=[])):=fun h=>by
    rcases h.2 with h | h
    ·rw[er]at h;simp only at h;omega
    ·exact hms h
   rw[J2 hcd]at e
   have eA:qE bs=(1,xs,ms,(bs.length:Int)):=by unfold qE;rw[if_neg (by omega),<-e,if_neg (fun h=>h hk)]
   refine⟨_,_,_,(zX hm).2.2.2.1,?_⟩
   rw[eA]
   exact⟨ao,co,_,usl,rfl,M.pt,fun y hy=>(M.nw y hy).1,Ow,Nv,OG.keep fun y _ g=>⟨rfl,g.1,g.2.2.1,g.2.2.2⟩,fun y hy=>(vN y hy).2,nd,M.sb⟩
 ·have hms:ms=[]:=by simpa using hx2
  refine fun _=>⟨fun _=>?_,fun h=>by cases h⟩
  have hcd:r.i<8*(bs.length:Int)\/ms=[]:=.inr hms
  obtain⟨f1,rfl⟩:∃f1,f=f1+1:=⟨f-1,by omega⟩
  rw[gZ,if_pos ⟨hk,hcd⟩]at e
  refine zb.mono (Ni hi G hx (by omega) hc hb hbm M hk) ?_
  rintro _ h2 ⟨fl,mt,xf,os,u4,u5,u6,sz,ao',co',rfl,M2,fr,oh,⟨a4,l4,c4,a5,l5,c5,a6,l6,c6,rfl,rfl,rfl⟩,wD⟩
  obtain⟨p2,w2,last2,l2,d2,hp2,hrp2,hm2⟩:=id M2.mt
  have vk:∀y,zd (.slice a1 l1 c1)=some y->h' y≠none/\h2 y=h' y:=fun y hy=>⟨Ow.held y hy,fr y (Ow.held y hy) (vN y hy).1 (vN y hy).2⟩
  refine⟨_,_,_,_,_,_,_,_,_,_,_,_,_,_,z8 (gC2 bs xs.length r).k,za,by rw[za],fun hz=>?_,fun hz=>?_⟩
  ·have hz:(gC2 bs xs.length r).k≠0:=by simpa[zu,za]using hz
   rw[if_neg hz,J2 (fun h=>hz h.1)]at e
   refine⟨_,_,_,(zX hm2).2.2.2.1,?_⟩
   rw[za,O4 hz]
   refine zb.mono (KI (hi.sub M2.sb) (E.sub M2.sb)) ?_
   rintro _ h4 ⟨rfl,s4⟩
   have k4:∀y,h2 y≠none->h4 y=h2 y:=fun y hy=>by
    cases ho:h2 y with
    | none=>exact absurd ho hy
    | some o=>exact s4 y o ho
   have eA:qE bs=((gC2 bs xs.length r).k,xs++(gSt bs xs.length r).2,ms,0):=by unfold qE;rw[if_neg (by omega),<-e,if_pos hz]
   refine⟨_,rfl,fun pp hpp=>?_,?_⟩
   ·obtain rfl:=List.mem_singleton.1 hpp
    simp only[Ex.ev,coerce,zg,zk,zh,zf,vA,vB,Nat.zero_add,Nat.add_zero,zo,zf]
    exact xO s4 (zX hm2).2.2.2.1
   ·rw[eA]
    refine⟨ao',co',_,usl,rfl,M2.pt.sub s4,fun y hy=>(M2.nw y hy).1,Ow.keep fun y hy=>?_,Nv,OG.keep fun y g1 g2=>?_,fun y hy e=>(oh y e).elim (vk y hy).1 (vN y hy).2,nd,M2.sb.trans s4⟩
    ·obtain⟨g1,g2⟩:=vk y hy
     rw[k4 y (by rw[g2];exact g1),g2]
    ·have g3:=fr y g1 g2.2.1 g2.2.2.1
     exact⟨by rw[k4 y (by rw[g3];exact g1),g3],g2.1,fun e=>(oh y e).elim g1 g2.2.2.1,g2.2.2.2⟩
  ·have hz:(gC2 bs xs.length r).k=0:=by simpa[zu,za]using hz
   rw[if_pos hz]at e
   obtain⟨rfl,rfl,rfl,rfl,rfl,P4,P5,P6,dd⟩:=wD hz
   obtain⟨_,far⟩:=Nk hz
   have er2:=hrp2 hz
   have ei2:(gC2 bs xs.length r).i=(p2:Int):=by rw[er2]
   have ei:r.i=(p:Int):=by rw[er]
   intro b1 hb1
   have nb1:∀y,h2 y≠none->y≠b1:=fun y hy e=>hy (e▸hb1)
   have eC:(Obj.cells #[Value.int .i64 (gFl bs r),Value.int .i64 (gMt bs r).2,Value.int .i64 (gXf bs r).2,Value.int .i64 (gOs bs r).2,.slice a4 l4 c4,.slice a5 l5 c5,.slice a6 l6 c6,Value.int .i64 ((gSt bs xs.length r).2.length:Int)] 65)=.cells (el8 (xK bs xs.length r) (.slice a4 l4 c4,.slice a5 l5 c5,.slice a6 l6 c6)).toArray 65:=rfl
   rw[eC]
   have s1:Eng.Sub h2 (upd h2 b1 (.cells (el8 (xK bs xs.length r) (.slice a4 l4 c4,.slice a5 l5 c5,.slice a6 l6 c6)).toArray 65)):=Sub.zE hb1
   have kb:∀y,h2 y≠none->upd h2 b1 (.cells (el8 (xK bs xs.length r) (.slice a4 l4 c4,.slice a5 l5 c5,.slice a6 l6 c6)).toArray 65) y=h2 y:=fun y hy=>upd_ne (nb1 y hy)
   have cb:upd h2 b1 (.cells (el8 (xK bs xs.length r) (.slice a4 l4 c4,.slice a5 l5 c5,.slice a6 l6 c6)).toArray 65) b1=some (.cells (el8 (xK bs xs.length r) (.slice a4 l4 c4,.slice a5 l5 c5,.slice a6 l6 c6)).toArray 65):=upd_same
   generalize upd h2 b1 (.cells (el8 (xK bs xs.length r) (.slice a4 l4 c4,.slice a5 l5 c5,.slice a6 l6 c6)).toArray 65)=hC at s1 kb cb ⊢
   refine Gp (S:=yo Tryz.prog s) (h0:=h) (sz:=8) (us:=el8 (xK bs xs.length r) (.slice a4 l4 c4,.slice a5 l5 c5,.slice a6 l6 c6)) hi (M2.sb.trans s1) (Ow.keep fun y hy=>?_) Nv (fun j x hj=>?_) rfl (fun x hx=>?_) rfl (by omega) fun v3 h3 Ow3 Nv3 s3 k3 r3=>?_
   ·obtain⟨g1,g2⟩:=vk y hy
    rw[kb y (by rw[g2];exact g1),g2]
   ·rw[zS]
    simp only[ze,cb,List.getElem?_toArray]
    exact hj
   ·simp only[el8,List.mem_cons,List.not_mem_nil,or_false]at hx
    rcases hx with rfl | rfl | rfl | rfl | rfl | rfl | rfl | rfl <;> exact⟨rfl,fun _ h=>(by cases h),fun _ h=>(by cases h)⟩
   ·obtain⟨a3,c3,rfl⟩:=Ow3.form
    simp only[zh,zg,zk]
    have k2:∀y,h2 y≠none->zd (.slice a1 l1 c1)≠some y->h3 y=h2 y:=fun y g1 g2=>(k3 y (by rw[kb y g1];exact g1) g2).trans (kb y g1)
    have hbm2:h2 bm≠none:=by rw[hm2];simp
    have ob:∀y,zd (.slice ao' (xs++(gSt bs xs.length r).2).length co')=some y->zd (.slice a1 l1 c1)≠some y:=fun y hy g=>by
     rcases oh y hy with g3 | g3
     ·exact(vk y g).1 g3
     ·exact(vN y g).2 g3
    have vb:∀y,h2 y≠none->zd (.slice a1 l1 c1)≠some y->zd (.slice a3 (ms.length+1) c3)≠some y:=fun y g1 g2 g3=>by
     rcases r3 with r3 | r3
     ·exact g2 (r3▸g3)
     ·have:=r3 y g3;rw[kb y g1]at this;exact g1 this
    have m3:h3 bm=h2 bm:=k2 bm hbm2 (fun g=>(vN bm g).1 rfl)
    refine⟨⟨f1,gC2 bs xs.length r,xs++(gSt bs xs.length r).2,ms++[xK bs xs.length r],ao',co',.slice a3 (ms.length+1) c3,usl++[(.slice a4 l4 c4,.slice a5 l5 c5,.slice a6 l6 c6)],by simp,by omega,by rw[List.length_append,List.length_singleton];omega,hz,by omega,by omega,?_,?_,Nv3,?_,?_,e,J1 nd dd fun y hy hm=>(OG.mem y hm).1 (by rcases yq.1 hy with g | g | g;exact(P4.2 y g).1;exact(P5.2 y g).1;exact(P6.2 y g).1)⟩,?_⟩
    ·exact⟨⟨p2,w2,last2,l2,d2,hp2,hrp2,m3.trans hm2⟩,M2.pt.keep fun y hy=>k2 y (M2.pt.held y hy) (ob y hy),M2.nw,s3,M2.le⟩
    ·rw[List.length_append,List.length_singleton,BH OG];exact Ow3
    ·intro y hy
     refine⟨fun g=>?_,fun g=>?_⟩
     ·subst g;exact vb y hbm2 (fun g=>(vN y g).1 rfl) hy
     ·exact vb y (M2.pt.held y g) (ob y g) hy
    ·refine OGs.app ?_ (OG.keep fun y g1 g2=>?_)
     ·have pn:∀ {u:Value} {x:List Int},PU h' h2 bm (.slice ao' (xs++(gSt bs xs.length r).2).length co') u x->Part .u8 h3 u x/\∀y,zd u=some y->h y=none/\y≠bm/\zd (.slice ao' (xs++(gSt bs xs.length r).2).length co')≠some y/\zd (.slice a3 (ms.length+1) c3)≠some y:=fun P=>by
       have q:∀y,zd _=some y->zd (.slice a1 l1 c1)≠some y:=fun y hy g=>(vk y g).1 (P.2 y hy).1
       exact⟨P.1.keep fun y hy=>k2 y (P.1.held y hy) (q y hy),fun y hy=>⟨zK M.sb (P.2 y hy).1,(P.2 y hy).2.1,(P.2 y hy).2.2,vb y (P.1.held y hy) (q y hy)⟩⟩
      exact⟨(pn P4).1,(pn P5).1,(pn P6).1,fun y hy=>by
       rcases hy with g | g | g
       ·exact(pn P4).2 y g
       ·exact(pn P5).2 y g
       ·exact(pn P6).2 y g⟩
     ·have g3:=fr y g1 g2.2.1 g2.2.2.1
      have g4:h2 y≠none:=by rw[g3];exact g1
      refine⟨(k2 y g4 g2.2.2.2).trans g3,g2.1,g2.2.1,fun g=>?_,vb y g4 g2.2.2.2⟩
      rcases oh y g with g5 | g5
      ·exact g1 g5
      ·exact g2.2.2.1 g5
    ·have q1:posOf h' bm=p:=by unfold posOf;rw[(zX hm).2.1];rfl
     have q2:posOf h3 bm=p2:=by unfold posOf;rw[(zX (m3.trans hm2)).2.1];rfl
     simp only[q1,q2]
     omega
end
end
section
section
variable {S : Shared} {h h0 h' : Eng.Heap} {a : Option Addr} {c : Nat} {bs : List Int}
def PQ(h:Eng.Heap)(a:Option Addr)(c:Nat)(bs:List Int)(X:Rd×List Int)(v:Value)(h':Eng.Heap):Prop:=
 ∃(a1:Option Addr) (c1:Nat),v=.tuple #[rdV a c bs X.1,.slice a1 X.2.length c1]/\Part .u8 h' (.slice a1 X.2.length c1) X.2/\Eng.New h (.slice a1 X.2.length c1)/\Eng.Sub h h'
theorem Su(hi:Eng.Inv S h)(hx:zp h .u8 a bs)(L:bs.length<=65536)(r:Rd)(ok:okR bs r)(n:Nat)(hn:n<=65535) :
  zb Tryz.prog S AA #[rdV a c bs r,.int .i64 n] h (PQ h a c bs (byL bs n r [])):=by
 refine HT (vs:=[.slice a bs.length c,.int .i64 r.i,.int .i64 r.k,.int .i64 n]) ⟨rfl,rfl,rfl,rfl,trivial⟩ hi ?_
 simp only[DR,Tr.wp,zA,Ex.ev,coerce,toInt_int,zc,zg,zk,zh,xq,zB,arith,Cst.val,SV.den,zr,zF,zz,zn,zl,zx,zJ,vF,vG,vA,vB,vC,List.getElem?_cons_succ,decide_eq_true_eq,vD,vE,vJ,vI,vK,List.length_cons,List.length_nil,Nat.zero_add,if_true,if_false,vL]
 intro b0 hb0
 have e0:(#[]:Array Value)=ints .u8 []:=rfl
 rw[e0]
 refine⟨fun us h'=>∃(j:Nat) (r':Rd) (acc:List Int) (a1:Option Addr) (c1:Nat),us=[.slice a1 acc.length c1,.int .i64 j,.slice a bs.length c,.int .i64 r'.i,.int .i64 r'.k]/\j<=n/\acc.length<=j/\okR bs r'/\Part .u8 h' (.slice a1 acc.length c1) acc/\Eng.New h (.slice a1 acc.length c1)/\Eng.Sub h h'/\byL bs (n-j) r' acc=byL bs n r [],
  fun us _=>n-(toInt (us.getD 1 undef)).toNat,⟨0,r,[],_,_,rfl,by omega,by simp,ok,(Own.made (k:=.u8) (h:=h) (b:=b0) (T:=5) []).part,New.of hb0,Sub.zE hb0,rfl⟩,?_⟩
 rintro a1 l1 c1 x0 b1 m1 d1 x1 x2 h' ⟨j,r',acc,a1',c1',hx1,hj,hacc,ok',P,N,s,e⟩
 simp only[List.cons.injEq,Value.int.injEq,Value.slice.injEq,true_and,and_true]at hx1
 obtain⟨⟨rfl,rfl,rfl⟩,rfl,⟨rfl,rfl,rfl⟩,rfl,rfl⟩:=hx1
 refine⟨fun hlt=>?_,fun hge=>?_⟩
 ·simp only[Bool.and_eq_true,decide_eq_true_eq,beq_iff_eq]at hlt
  obtain⟨hlt,hk⟩:=hlt
  have hjn:j<n:=by omega
  have en:n-j=n-(j+1)+1:=by omega
  rw[en,byL,if_pos hk]at e
  refine(yh (hi.sub s) (hx.sub s) (by omega) r' ok' 8 (by omega)).mono ?_
  rintro _ h2 ⟨rfl,rfl⟩
  have nm:=zQ (bs:=bs) (n:=8) (r:=r')
  have e8:(2:Int)^8=256:=by decide
  rw[e8]at nm
  have w2:IntKind.i64.wrap ((j:Int)+1)=((j+1:Nat):Int):=by rw[i64_in _ (by omega)];omega
  refine⟨_,_,_,_,_,_,rfl,fun hz=>?_,fun hz=>?_⟩
  ·have hz:(tk bs 8 r').1.k=0:=by simpa using hz
   rw[if_pos hz]at e
   have wb:IntKind.u8.wrap (tk bs 8 r').2=(tk bs 8 r').2:=by rw[IntKind.wrap_u8];omega
   intro b1 hb1
   rw[wb,w2]
   have s1:Eng.Sub h2 (upd h2 b1 (.cells (ints .u8 [(tk bs 8 r').2]) 5)):=Sub.zE hb1
   refine yM (ys:=[(tk bs 8 r').2]) hi (s.trans s1) (P.sub s1) N (zp.new) (by simp only[List.length_singleton];omega) fun v' h3 o n3 s4 _ _=>?_
   obtain⟨a4,c4,rfl,_,_⟩:=o.ints
   simp only[zh,zg,zk]
   intro _
   refine⟨⟨j+1,(tk bs 8 r').1,_,a4,c4,rfl,by omega,by rw[List.length_append,List.length_singleton];omega,zY ok',o,n3,s4,e⟩,by simp only[vB,vA,toInt_int];omega⟩
  ·have hz:(tk bs 8 r').1.k≠0:=by simpa using hz
   rw[if_neg hz]at e
   rw[w2]
   intro _
   refine⟨⟨j+1,(tk bs 8 r').1,acc,a1,c1,rfl,by omega,by omega,zY ok',P,N,s,by rw[Kn hz];exact e⟩,by simp only[vB,vA,toInt_int];omega⟩
 ·have e2:byL bs (n-j) r' acc=(r',acc):=by
   by_cases hk:r'.k=0
   ·have:n-j=0:=by
     by_cases hh:j<n
     ·exfalso
      have h1:(j:Int)<n:=by omega
      simp[h1,hk]at hge
     ·omega
    rw[this];rfl
   ·exact Kn hk
  rw[e2]at e
  rw[<-e]
  exact⟨_,_,rfl,P,N,s⟩
theorem Nl(hi:Eng.Inv S h)(hx:zp h .u8 a bs)(L:bs.length<=65536)(r:Rd)(ok:okR bs r) :
  zb Tryz.prog S qV #[rdV a c bs r] h (PQ h a c bs (txL bs (bs.length+1) r [])):=by
 refine Jc (vs:=[.slice a bs.length c,.int .i64 r.i,.int .i64 r.k]) ⟨rfl,rfl,rfl,trivial⟩ hi ?_
 simp only[Fc,Tr.wp,zA,Ex.ev,coerce,toInt_int,zc,zg,zk,zh,zB,Cst.val,SV.den,zr,zF,zz,zn,zl,zx,zJ,vF,vG,vA,vB,vC,vD,vE,vJ,vI,vK,List.length_cons,List.length_nil,Nat.zero_add,if_true,if_false,vL]
 intro b0 hb0
 have e0:(#[]:Array Value)=ints .u8 []:=rfl
 rw[e0]
 refine⟨fun us h'=>∃(f:Nat) (r':Rd) (acc:List Int) (a1:Option Addr) (c1:Nat),us=[.slice a1 acc.length c1,.slice a bs.length c,.int .i64 r'.i,.int .i64 r'.k]/\f+acc.length=bs.length+1/\okR bs r'/\(r'.k=0->8*(acc.length:Int)<=r'.i)/\Part .u8 h' (.slice a1 acc.length c1) acc/\Eng.New h (.slice a1 acc.length c1)/\Eng.Sub h h'/\txL bs f r' acc=txL bs (bs.length+1) r [],
  fun us _=>bs.length+1-slL (us.getD 0 undef),⟨bs.length+1,r,[],_,_,rfl,rfl,ok,fun hk=>by simpa using (ok hk).1,(Own.made (k:=.u8) (h:=h) (b:=b0) (T:=5) []).part,New.of hb0,Sub.zE hb0,rfl⟩,?_⟩
 rintro a1 l1 c1 b1 m1 d1 x1 x2 h' ⟨f,r',acc,a1',c1',hx1,hf,ok',hri,P,N,s,e⟩
 simp only[List.cons.injEq,Value.int.injEq,Value.slice.injEq,true_and,and_true]at hx1
 obtain⟨⟨rfl,rfl,rfl⟩,⟨rfl,rfl,rfl⟩,rfl,rfl⟩:=hx1
 refine⟨fun hk=>?_,fun hk=>?_⟩
 ·have hk:r'.k=0:=by simpa using hk
  have okk:=ok' hk
  have hri:=hri hk
  obtain⟨f1,rfl⟩:∃f1,f=f1+1:=⟨f-1,by omega⟩
  rw[txL,if_pos hk]at e
  refine(yh (hi.sub s) (hx.sub s) (by omega) r' ok' 8 (by omega)).mono ?_
  rintro _ h2 ⟨rfl,rfl⟩
  have nm:=zQ (bs:=bs) (n:=8) (r:=r')
  have e8:(2:Int)^8=256:=by decide
  rw[e8]at nm
  refine⟨_,_,_,_,_,_,rfl,fun hz=>?_,fun hz=>?_⟩
  ·have hz:(tk bs 8 r').2=0:=by simpa using hz
   rw[if_pos hz]at e
   rw[<-e]
   exact⟨_,_,rfl,P,N,s⟩
  ·have hz:(tk bs 8 r').2≠0:=by simpa using hz
   rw[if_neg hz]at e
   have hk1:(tk bs 8 r').1.k=0:=by
    by_cases g:(tk bs 8 r').1.k=0
    ·exact g
    ·exact absurd (OM g) hz
   have ta:=Gc (bs:=bs) hk1
   have ok1:=zY (n:=8) ok'
   have wb:IntKind.u8.wrap (tk bs 8 r').2=(tk bs 8 r').2:=by rw[IntKind.wrap_u8];omega
   intro b1 hb1
   rw[wb]
   have s1:Eng.Sub h2 (upd h2 b1 (.cells (ints .u8 [(tk bs 8 r').2]) 5)):=Sub.zE hb1
   refine yM (ys:=[(tk bs 8 r').2]) hi (s.trans s1) (P.sub s1) N (zp.new) (by simp only[List.length_singleton];omega) fun v' h3 o n3 s4 _ _=>?_
   obtain⟨a4,c4,rfl,_,_⟩:=o.ints
   simp only[zh,zg,zk]
   have:=(ok1 hk1).2
   exact⟨⟨f1,(tk bs 8 r').1,_,a4,c4,rfl,by rw[List.length_append,List.length_singleton];omega,ok1,fun _=>by rw[List.length_append,List.length_singleton];omega,o,n3,s4,e⟩,by simp only[vA,zg,List.length_append,List.length_singleton];omega⟩
 ·have hk:r'.k≠0:=by simpa using hk
  rw[Km hk]at e
  rw[<-e]
  exact⟨_,_,rfl,P,N,s⟩
end
end
section
section
variable {S : Shared} {h h1 h' : Eng.Heap} {a : Option Addr} {c : Nat} {bs : List Int} {r : Rd}
def PN(h h':Eng.Heap)(u:Value)(x:List Int):Prop:=Part .u8 h' u x/\Eng.New h u
theorem PN.sub{h2:Eng.Heap}{u:Value}{x:List Int}(H:PN h h1 u x)(s:Eng.Sub h1 h2):PN h h2 u x:=⟨H.1.sub s,H.2⟩
def PHq(h:Eng.Heap)(a:Option Addr)(c:Nat)(bs:List Int)(r:Rd)(v:Value)(h':Eng.Heap):Prop:=
 ∃(a4 a5 a6:Option Addr) (c4 c5 c6:Nat),v=.tuple #[rdV a c bs (gHd bs r),.agg #[.int .i64 (gFl bs r),.int .i64 (gMt bs r).2,.int .i64 (gXf bs r).2,.int .i64 (gOs bs r).2,.slice a4 (gEx bs r).2.length c4,.slice a5 (gNa bs r).2.length c5,.slice a6 (gCo bs r).2.length c6,.int .i64 0]] /\
  PN h h' (.slice a4 (gEx bs r).2.length c4) (gEx bs r).2/\PN h h' (.slice a5 (gNa bs r).2.length c5) (gNa bs r).2/\PN h h' (.slice a6 (gCo bs r).2.length c6) (gCo bs r).2/\Eng.Sub h h'
theorem VG:le2 r (gCo bs r).1:=by
 have a0:le2 r (tk bs 8 r).1:=yd
 have a1:le2 (tk bs 8 r).1 (gh1 bs r):=xj
 have a2:le2 (gh1 bs r) (gh2 bs r):=yd.trans xj
 have a3:le2 (gh2 bs r) (gh3 bs r):=yd.trans xj
 have a4:le2 (gh3 bs r) (gh4 bs r):=yd.trans xj
 have a5:le2 (gh4 bs r) (gOs bs r).1:=(yd.trans yd).trans yd
 have e1:le2 (gOs bs r).1 (gEx bs r).1:=by unfold gEx;split;exact yd.trans J0;exact fun h=>⟨h,by simp⟩
 have e2:le2 (gEx bs r).1 (gNa bs r).1:=by unfold gNa;split;exact Ei;exact fun h=>⟨h,by simp⟩
 have e3:le2 (gNa bs r).1 (gCo bs r).1:=by unfold gCo;split;exact Ei;exact fun h=>⟨h,by simp⟩
 exact(((((((a0.trans a1).trans a2).trans a3).trans a4).trans a5).trans e1).trans e2).trans e3
theorem LD{n k:Int}(h0:0<=n)(h1:n<256)(hk:k=2\/k=4\/k=8\/k=16):(IntKind.i64.wrap (n.tdiv k)).tmod 2=n/k%2:=by
 rcases hk with rfl | rfl | rfl | rfl <;> rw[Int.tdiv_eq_ediv_of_nonneg h0,i64_in _ (by omega),Int.tmod_eq_emod_of_nonneg (by omega)]
theorem UB(hi:Eng.Inv S h)(s:Eng.Sub h h1)(hx:zp h .u8 a bs)(hb:okB bs)(hc:bs.length<=c)(L:bs.length<=65536)(ok:okR bs r){a4 a5 a6:Option Addr}{c4 c5 c6:Nat}(P4:PN h h1 (.slice a4 (gEx bs r).2.length c4) (gEx bs r).2)(P5:PN h h1 (.slice a5 (gNa bs r).2.length c5) (gNa bs r).2)(P6:PN h h1 (.slice a6 (gCo bs r).2.length c6) (gCo bs r).2)
  (e3 e4 e5 e6 e7 e8 e9 e10 e11 e12 e13 e14 e15 e16 e17 e18 e19 e20 e21 e22 e23 e24 e25 e26 e28 e29 e30 e31 e32 e33 e35 e36 e37 e39 e40 e41 e43 e44 e45 e46 e48 e49 e50:Value) :
  hq4.wp Tryz.prog S yu (PHq h a c bs r) [.slice a bs.length c,.int .i64 r.i,.int .i64 r.k,e3,e4,e5,e6,e7,e8,e9,e10,e11,e12,e13,e14,e15,e16,e17,e18,e19,e20,e21,e22,e23,e24,e25,e26,.int .i64 (gFl bs r),e28,e29,e30,e31,e32,e33,.int .i64 (gMt bs r).2,e35,e36,e37,.int .i64 (gXf bs r).2,e39,e40,e41,.int .i64 (gOs bs r).2,e43,e44,e45,e46,.slice a4 (gEx bs r).2.length c4,e48,e49,e50,.slice a5 (gNa bs r).2.length c5,.slice a bs.length c,.int .i64 (gCo bs r).1.i,.int .i64 (gCo bs r).1.k,.slice a6 (gCo bs r).2.length c6] h1 []:=by
 simp only[hq4,Tr.wp,zA,Ex.ev,coerce,toInt_int,zc,zg,zk,zh,xq,jO,kW,zB,arith,Cst.val,SV.den,zr,zF,zz,zn,zl,zx,vF,vG,vA,vB,vC,decide_eq_true_eq,vD,vE,vJ,vI,vK,List.length_cons,List.length_nil,Nat.zero_add,if_true,if_false,vL]
 have fn:=Eh (bs:=bs) (r:=r)
 rw[LD fn.1 fn.2 (.inl rfl)]
 have okC:=Nb (bs:=bs) ok
 refine⟨fun hc1=>?_,fun hc1=>?_⟩
 ·simp only[Bool.and_eq_true,decide_eq_true_eq,beq_iff_eq]at hc1
  obtain⟨hf,hk⟩:=hc1
  obtain⟨k0,le1⟩:=VG hk
  have o1:=okC hk
  have o0:=ok k0
  have w1:IntKind.i64.wrap ((gCo bs r).1.i.tdiv 8)=(gCo bs r).1.i/8:=by rw[Int.tdiv_eq_ediv_of_nonneg o1.1,i64_in _ (by omega)]
  have w0:IntKind.i64.wrap (r.i.tdiv 8)=r.i/8:=by rw[Int.tdiv_eq_ediv_of_nonneg o0.1,i64_in _ (by omega)]
  rw[w1,w0]
  refine⟨by omega,by omega,by omega,by omega,?_⟩
  obtain⟨a9,e9,g9⟩:=kB (hx.sub s) (lo:=(r.i/8).toNat) (hi:=((gCo bs r).1.i/8).toNat) (m:=c) (by omega) (by omega) (by omega)
  have eH:(bs.drop (r.i/8).toNat).take (((gCo bs r).1.i/8).toNat-(r.i/8).toNat)=gHb bs r:=by unfold gHb;rw[List.drop_take]
  rw[eH]at e9 g9
  rw[e9]
  have hbH:∀x∈gHb bs r,0<=x/\x<256:=fun x hx=>hb x (List.mem_of_mem_take (List.mem_of_mem_drop hx))
  have hlH:(gHb bs r).length<=65536:=by unfold gHb;rw[List.length_drop,List.length_take];omega
  refine zb.mono (CB (hi.sub s) 0#32 a9 _ (gHb bs r) g9 hbH (by omega)) ?_
  rintro _ h3 ⟨rfl,rfl⟩
  refine⟨_,rfl,?_⟩
  refine(yh (hi.sub s) (hx.sub s) (by omega) (gCo bs r).1 okC 16 (by omega)).mono ?_
  rintro _ h3 ⟨rfl,rfl⟩
  refine⟨_,_,_,_,_,_,rfl,?_⟩
  have wc:IntKind.i64.wrap (((jd 0#32 (gHb bs r)).toNat:Int).tmod 65536)=qD (gHb bs r)%65536:=by
   have h0:(0:Int)<=((jd 0#32 (gHb bs r)).toNat:Int):=by omega
   unfold qD
   generalize ((jd 0#32 (gHb bs r)).toNat:Int)=z at h0 ⊢
   rw[Int.tmod_eq_emod_of_nonneg h0,i64_in _ (by omega)]
  rw[wc]
  refine zb.mono (Ka (hi.sub s) a c bs (tk bs 16 (gCo bs r).1).1 _) ?_
  rintro _ h3 ⟨rfl,rfl⟩
  have eD:bdK 4 ((tk bs 16 (gCo bs r).1).2 != qD (gHb bs r)%65536) (tk bs 16 (gCo bs r).1).1=gHd bs r:=by unfold gHd;rw[if_pos ⟨hf,hk⟩]
  rw[eD]
  exact⟨_,_,_,_,_,rfl,fun _=>⟨a4,a5,a6,c4,c5,c6,rfl,P4,P5,P6,s⟩⟩
 ·have eD:gHd bs r=(gCo bs r).1:=by
   unfold gHd;rw[if_neg]
   rintro⟨h1,h2⟩
   simp[h1,h2]at hc1
  intro _
  refine⟨a4,a5,a6,c4,c5,c6,?_,P4,P5,P6,s⟩
  rw[eD];rfl
theorem PN.of{h2:Eng.Heap}{u:Value}{x:List Int}(s:Eng.Sub h h1)(P:Part .u8 h2 u x)(N:Eng.New h1 u):PN h h2 u x:=⟨P,fun y hy=>zK s (N y hy)⟩
theorem PN.nil:PN h h1 (.slice none 0 0) []:=⟨Part.nil,fun y hy=>by cases hy⟩
theorem UC(hi:Eng.Inv S h)(s:Eng.Sub h h1)(hx:zp h .u8 a bs)(hb:okB bs)(hc:bs.length<=c)(L:bs.length<=65536)(ok:okR bs r){a4 a5:Option Addr}{c4 c5:Nat}(P4:PN h h1 (.slice a4 (gEx bs r).2.length c4) (gEx bs r).2)(P5:PN h h1 (.slice a5 (gNa bs r).2.length c5) (gNa bs r).2)
  (e3 e4 e5 e6 e7 e8 e9 e10 e11 e12 e13 e14 e15 e16 e17 e18 e19 e20 e21 e22 e23 e24 e25 e26 e28 e29 e30 e31 e32 e33 e35 e36 e37 e39 e40 e41 e43 e44 e45 e46:Value) :
  hq3.wp Tryz.prog S yu (PHq h a c bs r) [.slice a bs.length c,.int .i64 r.i,.int .i64 r.k,e3,e4,e5,e6,e7,e8,e9,e10,e11,e12,e13,e14,e15,e16,e17,e18,e19,e20,e21,e22,e23,e24,e25,e26,.int .i64 (gFl bs r),e28,e29,e30,e31,e32,e33,.int .i64 (gMt bs r).2,e35,e36,e37,.int .i64 (gXf bs r).2,e39,e40,e41,.int .i64 (gOs bs r).2,e43,e44,e45,e46,.slice a4 (gEx bs r).2.length c4,.slice a bs.length c,.int .i64 (gNa bs r).1.i,.int .i64 (gNa bs r).1.k,.slice a5 (gNa bs r).2.length c5] h1 []:=by
 simp only[hq3,Tr.wp,zA,Ex.ev,coerce,toInt_int,zc,zg,zk,zh,zB,arith,Cst.val,SV.den,zr,zF,zz,zn,zl,zx,vF,vG,vA,vB,vC,vD,vE,vJ,vI,vK,List.length_cons,List.length_nil,Nat.zero_add,if_true,if_false,vL]
 have fn:=Eh (bs:=bs) (r:=r)
 rw[LD fn.1 fn.2 (.inr (.inr (.inr rfl)))]
 have okN:=Na (bs:=bs) ok
 refine⟨fun hc1=>?_,fun hc1=>?_⟩
 ·have hc1:gFl bs r/16%2=1:=by simpa using hc1
  intro b1 hb1
  have s1:Eng.Sub h1 (upd h1 b1 (.cells #[] 5)):=Sub.zE hb1
  have st:=s.trans s1
  have eC:gCo bs r=txL bs (bs.length+1) (gNa bs r).1 []:=by unfold gCo;rw[if_pos hc1]
  refine zb.mono (Nl (c:=c) (hi.sub st) (hx.sub st) L (gNa bs r).1 okN) ?_
  rintro _ h3 ⟨a6,c6,rfl,P6,N6,s3⟩
  rw[<-eC]at P6 N6 ⊢
  refine⟨_,_,_,_,_,_,_,_,rfl,fun _=>?_⟩
  exact UB hi (st.trans s3) hx hb hc L ok (P4.sub (s1.trans s3)) (P5.sub (s1.trans s3)) (PN.of st P6 N6) _ _ _ _ _ _ _ _ _ _ _ _ _ _ _ _ _ _ _ _ _ _ _ _ _ _ _ _ _ _ _ _ _ _ _ _ _ _ _ _ _ _ _
 ·have hc1:gFl bs r/16%2≠1:=by simpa using hc1
  intro _
  have eC:gCo bs r=((gNa bs r).1,[]):=by unfold gCo;rw[if_neg hc1]
  have K:=UB (a6:=none) (c6:=0) hi s hx hb hc L ok P4 P5 (by rw[eC];exact PN.nil)
  rw[eC]at K
  exact K _ _ _ _ _ _ _ _ _ _ _ _ _ _ _ _ _ _ _ _ _ _ _ _ _ _ _ _ _ _ _ _ _ _ _ _ _ _ _ _ _ _ _
theorem UD(hi:Eng.Inv S h)(s:Eng.Sub h h1)(hx:zp h .u8 a bs)(hb:okB bs)(hc:bs.length<=c)(L:bs.length<=65536)(ok:okR bs r){a4:Option Addr}{c4:Nat}(P4:PN h h1 (.slice a4 (gEx bs r).2.length c4) (gEx bs r).2)
  (e3 e4 e5 e6 e7 e8 e9 e10 e11 e12 e13 e14 e15 e16 e17 e18 e19 e20 e21 e22 e23 e24 e25 e26 e28 e29 e30 e31 e32 e33 e35 e36 e37 e39 e40 e41 e43:Value) :
  hq2.wp Tryz.prog S yu (PHq h a c bs r) [.slice a bs.length c,.int .i64 r.i,.int .i64 r.k,e3,e4,e5,e6,e7,e8,e9,e10,e11,e12,e13,e14,e15,e16,e17,e18,e19,e20,e21,e22,e23,e24,e25,e26,.int .i64 (gFl bs r),e28,e29,e30,e31,e32,e33,.int .i64 (gMt bs r).2,e35,e36,e37,.int .i64 (gXf bs r).2,e39,e40,e41,.int .i64 (gOs bs r).2,e43,.slice a bs.length c,.int .i64 (gEx bs r).1.i,.int .i64 (gEx bs r).1.k,.slice a4 (gEx bs r).2.length c4] h1 []:=by
 simp only[hq2,Tr.wp,zA,Ex.ev,coerce,toInt_int,zc,zg,zk,zh,zB,arith,Cst.val,SV.den,zr,zF,zz,zn,zl,zx,vF,vG,vA,vB,vC,vD,vE,vJ,vI,vK,List.length_cons,List.length_nil,Nat.zero_add,if_true,if_false,vL]
 have fn:=Eh (bs:=bs) (r:=r)
 rw[LD fn.1 fn.2 (.inr (.inr (.inl rfl)))]
 have okE:=MZ (bs:=bs) ok
 refine⟨fun hc1=>?_,fun hc1=>?_⟩
 ·have hc1:gFl bs r/8%2=1:=by simpa using hc1
  intro b1 hb1
  have s1:Eng.Sub h1 (upd h1 b1 (.cells #[] 5)):=Sub.zE hb1
  have st:=s.trans s1
  have eC:gNa bs r=txL bs (bs.length+1) (gEx bs r).1 []:=by unfold gNa;rw[if_pos hc1]
  refine zb.mono (Nl (c:=c) (hi.sub st) (hx.sub st) L (gEx bs r).1 okE) ?_
  rintro _ h3 ⟨a6,c6,rfl,P6,N6,s3⟩
  rw[<-eC]at P6 N6 ⊢
  refine⟨_,_,_,_,_,_,_,_,rfl,fun _=>?_⟩
  exact UC hi (st.trans s3) hx hb hc L ok (P4.sub (s1.trans s3)) (PN.of st P6 N6) _ _ _ _ _ _ _ _ _ _ _ _ _ _ _ _ _ _ _ _ _ _ _ _ _ _ _ _ _ _ _ _ _ _ _ _ _ _ _ _
 ·have hc1:gFl bs r/8%2≠1:=by simpa using hc1
  intro _
  have eC:gNa bs r=((gEx bs r).1,[]):=by unfold gNa;rw[if_neg hc1]
  have K:=UC (a5:=none) (c5:=0) hi s hx hb hc L ok P4 (by rw[eC];exact PN.nil)
  rw[eC]at K
  exact K _ _ _ _ _ _ _ _ _ _ _ _ _ _ _ _ _ _ _ _ _ _ _ _ _ _ _ _ _ _ _ _ _ _ _ _ _ _ _ _
theorem Qq(hi:Eng.Inv S h)(hx:zp h .u8 a bs)(hb:okB bs)(hc:bs.length<=c)(L:bs.length<=65536)(ok:okR bs r):zb Tryz.prog S wV #[rdV a c bs r] h (PHq h a c bs r):=by
 refine Hd (vs:=[.slice a bs.length c,.int .i64 r.i,.int .i64 r.k]) ⟨rfl,rfl,rfl,trivial⟩ hi ?_
 simp only[CV,Tr.wp,zA,Ex.ev,coerce,toInt_int,zc,zg,zk,zh,zB,arith,Cst.val,SV.den,zr,zF,zz,zn,zl,zx,vF,vG,vA,vB,vC,vD,vE,vJ,vI,vK,List.length_cons,List.length_nil,Nat.zero_add,if_true,if_false,vL]
 refine(yh (c:=c) hi hx (by omega) r ok 8 (by omega)).mono ?_
 rintro _ h3 ⟨rfl,rfl⟩
 refine⟨_,_,_,_,_,_,rfl,?_⟩
 refine zb.mono (yZ hi a c bs (tk bs 8 r).1 _) ?_
 rintro _ h3 ⟨rfl,rfl⟩
 refine⟨_,_,_,_,_,rfl,?_⟩
 have e1:bd ((tk bs 8 r).2 != 31) (tk bs 8 r).1=gh1 bs r:=rfl
 rw[e1]
 refine(yh (c:=c) hi hx (by omega) (gh1 bs r) (Si ok) 8 (by omega)).mono ?_
 rintro _ h3 ⟨rfl,rfl⟩
 refine⟨_,_,_,_,_,_,rfl,?_⟩
 refine zb.mono (yZ hi a c bs (tk bs 8 (gh1 bs r)).1 _) ?_
 rintro _ h3 ⟨rfl,rfl⟩
 refine⟨_,_,_,_,_,rfl,?_⟩
 have e2:bd ((tk bs 8 (gh1 bs r)).2 != 139) (tk bs 8 (gh1 bs r)).1=gh2 bs r:=rfl
 rw[e2]
 refine(yh (c:=c) hi hx (by omega) (gh2 bs r) (Sj ok) 8 (by omega)).mono ?_
 rintro _ h3 ⟨rfl,rfl⟩
 refine⟨_,_,_,_,_,_,rfl,?_⟩
 refine zb.mono (yZ hi a c bs (tk bs 8 (gh2 bs r)).1 _) ?_
 rintro _ h3 ⟨rfl,rfl⟩
 refine⟨_,_,_,_,_,rfl,?_⟩
 have e3:bd ((tk bs 8 (gh2 bs r)).2 != 8) (tk bs 8 (gh2 bs r)).1=gh3 bs r:=rfl
 rw[e3]
 refine(yh (c:=c) hi hx (by omega) (gh3 bs r) (Sk ok) 8 (by omega)).mono ?_
 rintro _ h3 ⟨rfl,rfl⟩
 refine⟨_,_,_,_,_,_,rfl,?_⟩
 refine zb.mono (yZ hi a c bs (tk bs 8 (gh3 bs r)).1 _) ?_
 rintro _ h3 ⟨rfl,rfl⟩
 refine⟨_,_,_,_,_,rfl,?_⟩
 have e4:bd (decide ((tk bs 8 (gh3 bs r)).2>31)) (tk bs 8 (gh3 bs r)).1=gh4 bs r:=rfl
 rw[e4]
 refine(yh (c:=c) hi hx (by omega) (gh4 bs r) (Sl ok) 32 (by omega)).mono ?_
 rintro _ h3 ⟨rfl,rfl⟩
 refine⟨_,_,_,_,_,_,rfl,?_⟩
 refine(yh (c:=c) hi hx (by omega) (gMt bs r).1 (Sm ok) 8 (by omega)).mono ?_
 rintro _ h3 ⟨rfl,rfl⟩
 refine⟨_,_,_,_,_,_,rfl,?_⟩
 refine(yh (c:=c) hi hx (by omega) (gXf bs r).1 (Sn ok) 8 (by omega)).mono ?_
 rintro _ h3 ⟨rfl,rfl⟩
 refine⟨_,_,_,_,_,_,rfl,?_⟩
 have e5:(tk bs 8 (gh3 bs r)).2=gFl bs r:=rfl
 have fn:=Eh (bs:=bs) (r:=r)
 rw[e5,LD fn.1 fn.2 (.inr (.inl rfl))]
 refine⟨fun hc1=>?_,fun hc1=>?_⟩
 ·have hc1:gFl bs r/4%2=1:=by simpa using hc1
  have eO:tk bs 8 (gXf bs r).1=gOs bs r:=rfl
  rw[eO]
  refine(yh (c:=c) hi hx (by omega) (gOs bs r).1 (Jw ok) 16 (by omega)).mono ?_
  rintro _ h4 ⟨rfl,rfl⟩
  refine⟨_,_,_,_,_,_,rfl,?_⟩
  intro b1 hb1
  have nm:=zQ (bs:=bs) (n:=16) (r:=(gOs bs r).1)
  obtain⟨n,hn⟩:=Int.eq_ofNat_of_zero_le nm.1
  have e16:(2:Int)^16=65536:=by decide
  rw[hn,e16]at nm
  have eE:gEx bs r=byL bs n (tk bs 16 (gOs bs r).1).1 []:=by unfold gEx;rw[if_pos hc1,hn];rfl
  rw[hn]
  have s1:Eng.Sub h4 (upd h4 b1 (.cells #[] 5)):=Sub.zE hb1
  refine zb.mono (Su (c:=c) (hi.sub s1) (hx.sub s1) L (tk bs 16 (gOs bs r).1).1 (zY (Jw ok)) n (by omega)) ?_
  rintro _ h5 ⟨a6,c6,rfl,P6,N6,s3⟩
  rw[<-eE]at P6 N6 ⊢
  refine⟨_,_,_,_,_,_,_,_,rfl,fun _=>?_⟩
  exact UD hi (s1.trans s3) hx hb hc L ok (PN.of s1 P6 N6) _ _ _ _ _ _ _ _ _ _ _ _ _ _ _ _ _ _ _ _ _ _ _ _ _ _ _ _ _ _ _ _ _ _ _ _ _
 ·have hc1:gFl bs r/4%2≠1:=by simpa using hc1
  have eO:tk bs 8 (gXf bs r).1=gOs bs r:=rfl
  rw[eO]
  intro _
  have eE:gEx bs r=((gOs bs r).1,[]):=by unfold gEx;rw[if_neg hc1]
  have K:=UD (a4:=none) (c4:=0) hi (fun _ _ e=>e) hx hb hc L ok (by rw[eE];exact PN.nil)
  rw[eE]at K
  exact K _ _ _ _ _ _ _ _ _ _ _ _ _ _ _ _ _ _ _ _ _ _ _ _ _ _ _ _ _ _ _ _ _ _ _ _ _
end
end
section
section
variable {S : Shared} {h h1 h' : Eng.Heap}
theorem LF{h1 h2:Eng.Heap}(s:Eng.Sub h1 h2){y:Nat}(g:h1 y≠none):h2 y=h1 y:=by
 cases e:h1 y with
 | none=>exact absurd e g
 | some o=>exact s y o e
theorem g_spec_Gzip'(hi:Eng.Inv S h){v:Value}{bs:List Int}(O:tB.O h v bs)(hb:okB bs)(L:PI bs):zb Tryz.prog S Dn #[v] h (PGz h (qE bs)):=by
 obtain⟨a,c,rfl,hc,hx⟩:=Part.ints O
 have hL:bs.length<=1048576:=L
 refine Lj (vs:=[.slice a bs.length c]) ⟨rfl,trivial⟩ hi ?_
 simp only[Hp,Tr.wp,zA,Ex.ev,coerce,toInt_int,zc,zg,zk,zh,xq,AJ,kT,zB,arith,Cst.val,SV.den,zr,zF,zz,zn,zl,zx,zJ,vF,vG,vA,vB,vC,List.getElem?_cons_succ,decide_eq_true_eq,decide_eq_false_iff_not,vD,vE,vJ,vI,vK,List.length_cons,List.length_nil,Nat.zero_add,if_true,if_false,vL]
 refine⟨fun hgt=>?_,fun hle=>?_⟩
 ·have e:qE bs=(7,[],[],0):=if_pos (by omega)
  rw[e]
  exact⟨none,0,.slice none 0 0,[],rfl,Part.nil,fun y hy=>(by cases hy),yE.nil,fun y hy=>(by cases hy),trivial,fun _ _ e=>e⟩
 have hle:bs.length<=65536:=by omega
 refine⟨fun us h'=>∃(f:Nat) (r:Rd) (xs:List Int) (ms:List GM) (ao:Option Addr) (co:Nat) (vm:Value) (usl:List (Value×Value×Value)),us=[.slice ao xs.length co,vm,.slice a bs.length c,.int .i64 r.i,.int .i64 r.k]/\okR bs r/\(r.k=0->8*(bs.length:Int)+16<=r.i+8*f)/\(r.k=0->8*(ms.length:Int)<=r.i)/\xs.length<=100000 /\
   Part .u8 h' (.slice ao xs.length co) xs/\Eng.New h (.slice ao xs.length co)/\yE 8 h' vm ms.length (yv ms usl)/\Eng.New h vm/\(∀y,zd vm=some y->zd (.slice ao xs.length co)≠some y)/\OGs h' (fun y=>h y=none/\zd (.slice ao xs.length co)≠some y/\zd vm≠some y) ms usl/\Eng.Sub h h'/\gZ bs f r xs ms=Gm bs,
  fun us _=>if toInt (us.getD 4 undef)=0 then 8*bs.length+1-(toInt (us.getD 3 undef)).toNat else 0,
  ⟨bs.length+2,⟨0,0⟩,[],[],none,0,.slice none 0 0,[],rfl,fun _=>⟨Int.le_refl _,by simp only;omega⟩,fun _=>by simp only;omega,fun _=>by simp,by simp,Part.nil,fun y hy=>(by cases hy),yE.nil,fun y hy=>(by cases hy),fun y hy=>(by cases hy),trivial,fun _ _ e=>e,rfl⟩,?_⟩
 rintro a1 l1 c1 a2 l2 c2 a3 l3 c3 x1 x2 h' ⟨f,r,xs,ms,ao,co,vm,usl,hx1,ok,hf,hml,hxl,P,N,Ow,Nv,vN,OG,s,e⟩
 simp only[List.cons.injEq,Value.int.injEq,Value.slice.injEq,true_and,and_true]at hx1
 obtain⟨⟨rfl,rfl,rfl⟩,rfl,⟨rfl,rfl,rfl⟩,rfl,rfl⟩:=hx1
 obtain⟨_,_,ev⟩:=Ow.form
 cases ev
 have w8:IntKind.i64.wrap (8*(bs.length:Int))=8*(bs.length:Int):=i64_in _ (by omega)
 rw[w8]
 have hms:((ms.length:Int)==0)=decide (ms=[]):=by cases ms <;> simp <;> omega
 rw[hms]
 refine⟨fun hgo=>?_,fun hst=>?_⟩
 ·simp only[Bool.and_eq_true,Bool.or_eq_true,decide_eq_true_eq,beq_iff_eq]at hgo
  obtain⟨hk,hcd⟩:=hgo
  have ok0:=ok hk
  have hf0:=hf hk
  have hml0:=hml hk
  obtain⟨f1,rfl⟩:∃f1,f=f1+1:=⟨f-1,by omega⟩
  rw[gZ,if_pos ⟨hk,hcd⟩]at e
  refine zb.mono (Qq (hi.sub s) (hx.sub s) hb hc hle ok) ?_
  rintro _ h1 ⟨a4,a5,a6,c4,c5,c6,rfl,P4,P5,P6,s1⟩
  refine⟨_,_,_,_,_,_,_,_,_,_,_,_,_,_,_,_,_,_,_,rfl,?_⟩
  intro b1 hb1
  have e0':(#[]:Array Value)=ints .u8 []:=rfl
  rw[e0']
  have s2:Eng.Sub h1 (upd h1 b1 (.cells (ints .u8 []) 5)):=Sub.zE hb1
  have HN:zp (upd h1 b1 (.cells (ints .u8 []) 5)) .u8 (some ⟨b1,0,none⟩) []:=zp.new
  generalize upd h1 b1 (.cells (ints .u8 []) 5)=H1 at s2 HN ⊢
  have wr:IntKind.i64.wrap (100000-(xs.length:Int))=((100000-xs.length:Nat):Int):=by rw[i64_in _ (by omega)];omega
  rw[wr]
  have sH:Eng.Sub h H1:=s.trans (s1.trans s2)
  have i1:=hi.sub sH
  refine(RM i1 (some ⟨b1,0,none⟩) 0 [] 32768 (100000-xs.length) (by simp) (by simp) (by omega) HN).mono ?_
  rintro _ h2 ⟨a7,c7,rfl,P7,N7,s3⟩
  have eL:ya 32768 ([]:List Int)=[]:=by simp[ya]
  rw[eL]at P7 N7 ⊢
  refine⟨_,_,_,_,_,_,rfl,?_⟩
  have K:=PY (c:=c3) (dl:=0) (sz:=32768) (room:=100000-xs.length) i1 s3 (hx.sub sH) (by omega) (gHd bs r) (Nc ok) P7 N7 (Nat.zero_le _) (by simp) (by omega) (by omega) (by omega) (8*bs.length+1) (Nat.le_refl _) (8*bs.length+1) (Nat.le_refl _)
  refine zb.mono K ?_
  rintro _ h3 ⟨a8,c8,rfl,P8,N8,s4⟩
  have eF:blF bs 0 (100000-xs.length) 32768 (8*bs.length+1) (8*bs.length+1) (gHd bs r) []=gSt bs xs.length r:=rfl
  have okS:okR bs (gSt bs xs.length r).1:=RL (Nc ok)
  have hDl:=(JX (bs:=bs) (dl:=0) (room:=100000-xs.length) (sz:=32768) (F:=8*bs.length+1) (f:=8*bs.length+1) (r:=gHd bs r) (al:=[]) (Nat.le_refl _) (by simp)).2
  have hDb:okB (gSt bs xs.length r).2:=Kc OO
  rw[eF]at P8 N8 hDl ⊢
  refine⟨_,_,_,_,_,_,_,_,_,_,_,rfl,?_⟩
  refine zb.mono (Vq (dl:=0) (sz:=32768) (room:=100000-xs.length) i1 s4 P8 (Nat.zero_le _) (by omega)) ?_
  rintro v5 h5 ⟨P9,N9,s5⟩
  rw[List.drop_zero]at P9
  obtain⟨a9,c9,rfl,hc9,g9⟩:=P9.ints
  refine⟨_,_,_,rfl,?_⟩
  have s15:Eng.Sub h' h5:=s1.trans (s2.trans s5)
  refine yM hi (s.trans s15) (P.sub s15) N g9 (by omega) fun v6 h6 o6 n6 s6 k6 r6=>?_
  obtain⟨a10,c10,rfl,_,_⟩:=o6.ints
  simp only[zh,zg,zk]
  refine zb.mono (NY (hi.sub s6) a3 c3 (show bs.length<=1048576 by omega) (gSt bs xs.length r).1 okS) ?_
  rintro _ hq ⟨rfl,rfl⟩
  refine⟨_,_,_,_,_,rfl,?_⟩
  refine(yh (c:=c3) (hi.sub s6) (hx.sub s6) (by omega) (alg (gSt bs xs.length r).1) (FZ okS) 32 (by omega)).mono ?_
  rintro _ hq ⟨rfl,rfl⟩
  refine⟨_,_,_,_,_,_,rfl,?_⟩
  have P9':Part .u8 hq (.slice a9 (gSt bs xs.length r).2.length c9) (gSt bs xs.length r).2:=P9.keep fun y hy=>k6 y (P9.held y hy) fun g=>P.held y g (zK (s1.trans s2) (N9 y hy))
  obtain⟨_,_,e9,_,g9'⟩:=P9'.ints
  cases e9
  refine zb.mono (CB (hi.sub s6) 0#32 a9 c9 (gSt bs xs.length r).2 g9' hDb (by omega)) ?_
  rintro _ hq2 ⟨rfl,rfl⟩
  refine⟨_,rfl,?_⟩
  have wc:IntKind.i64.wrap ((jd 0#32 (gSt bs xs.length r).2).toNat:Int)=qD (gSt bs xs.length r).2:=by
   have h1:=(jd 0#32 (gSt bs xs.length r).2).isLt
   unfold qD
   exact i64_in _ (by omega)
  rw[wc]
  refine zb.mono (Ka (hi.sub s6) a3 c3 bs (tk bs 32 (alg (gSt bs xs.length r).1)).1 _) ?_
  rintro _ hq2 ⟨rfl,rfl⟩
  have eC1:bdK 4 ((tk bs 32 (alg (gSt bs xs.length r).1)).2 != qD (gSt bs xs.length r).2) (tk bs 32 (alg (gSt bs xs.length r).1)).1=gC1 bs xs.length r:=rfl
  rw[eC1]
  have okC1:okR bs (gC1 bs xs.length r):=ME (by decide) (zY (FZ okS))
  refine⟨_,_,_,_,_,rfl,?_⟩
  refine(yh (c:=c3) (hi.sub s6) (hx.sub s6) (by omega) (gC1 bs xs.length r) okC1 32 (by omega)).mono ?_
  rintro _ hq2 ⟨rfl,rfl⟩
  refine⟨_,_,_,_,_,_,rfl,?_⟩
  refine zb.mono (Ka (hi.sub s6) a3 c3 bs (tk bs 32 (gC1 bs xs.length r)).1 _) ?_
  rintro _ hq2 ⟨rfl,rfl⟩
  have eC2:bdK 4 ((tk bs 32 (gC1 bs xs.length r)).2 != ((gSt bs xs.length r).2.length:Int)) (tk bs 32 (gC1 bs xs.length r)).1=gC2 bs xs.length r:=rfl
  rw[eC2]
  have okC2:okR bs (gC2 bs xs.length r):=ME (by decide) (zY okC1)
  have vH:∀y,zd (.slice a2 ms.length c2)=some y->h' y≠none/\hq2 y=h' y:=fun y hy=>by
   have g:=Ow.held y hy
   refine⟨g,?_⟩
   rw[k6 y (s15.ne y g) (vN y hy)]
   exact LF s15 g
  have fr:∀y,h' y≠none->zd (.slice a1 xs.length c1)≠some y->hq2 y=h' y:=fun y g1 g2=>(k6 y (s15.ne y g1) g2).trans (LF s15 g1)
  have ob:∀y,h5 y≠none->zd (.slice a1 xs.length c1)≠some y->zd (.slice a10 (xs++(gSt bs xs.length r).2).length c10)≠some y:=fun y g1 g2 g3=>by
   rcases r6 with r6 | r6
   ·exact g2 (r6▸g3)
   ·exact g1 (r6 y g3)
  have hDl2:(xs++(gSt bs xs.length r).2).length<=100000:=by rw[List.length_append];omega
  refine⟨_,_,_,_,_,rfl,fun hz=>?_,fun hz=>?_⟩
  ·have hz:(gC2 bs xs.length r).k=0:=by simpa using hz
   rw[if_pos hz]at e
   obtain⟨_,far⟩:=Nk hz
   have o2:=okC2 hz
   intro b2 hb2
   have eC:(Obj.cells #[Value.int .i64 (gFl bs r),Value.int .i64 (gMt bs r).2,Value.int .i64 (gXf bs r).2,Value.int .i64 (gOs bs r).2,.slice a4 (gEx bs r).2.length c4,.slice a5 (gNa bs r).2.length c5,.slice a6 (gCo bs r).2.length c6,Value.int .i64 ((gSt bs xs.length r).2.length:Int)] 65)=.cells (el8 (xK bs xs.length r) (.slice a4 (gEx bs r).2.length c4,.slice a5 (gNa bs r).2.length c5,.slice a6 (gCo bs r).2.length c6)).toArray 65:=rfl
   rw[eC]
   generalize hU:((.slice a4 (gEx bs r).2.length c4,.slice a5 (gNa bs r).2.length c5,.slice a6 (gCo bs r).2.length c6):Value×Value×Value)=U
   have t1:Eng.Sub hq2 (upd hq2 b2 (.cells (el8 (xK bs xs.length r) U).toArray 65)):=Sub.zE hb2
   have kb:∀y,hq2 y≠none->upd hq2 b2 (.cells (el8 (xK bs xs.length r) U).toArray 65) y=hq2 y:=fun y hy=>upd_ne fun e=>hy (e▸hb2)
   have cb:upd hq2 b2 (.cells (el8 (xK bs xs.length r) U).toArray 65) b2=some (.cells (el8 (xK bs xs.length r) U).toArray 65):=upd_same
   generalize upd hq2 b2 (.cells (el8 (xK bs xs.length r) U).toArray 65)=hC at t1 kb cb ⊢
   refine Gp (S:=S) (h0:=h) (sz:=8) (us:=el8 (xK bs xs.length r) U) hi (s6.trans t1) (Ow.keep fun y hy=>?_) Nv (fun j x hj=>?_) rfl (fun x hx=>?_) rfl (by omega) fun v3 h9 Ow3 Nv3 s9 k3 r3=>?_
   ·obtain⟨g1,g2⟩:=vH y hy
    rw[kb y (by rw[g2];exact g1),g2]
   ·rw[zS]
    simp only[ze,cb,List.getElem?_toArray]
    exact hj
   ·rw[<-hU]at hx
    simp only[el8,List.mem_cons,List.not_mem_nil,or_false]at hx
    rcases hx with rfl | rfl | rfl | rfl | rfl | rfl | rfl | rfl <;> exact⟨rfl,fun _ h=>(by cases h),fun _ h=>(by cases h)⟩
   ·obtain⟨a11,c11,rfl⟩:=Ow3.form
    simp only[zh,zg,zk]
    have k2:∀y,hq2 y≠none->zd (.slice a2 ms.length c2)≠some y->h9 y=hq2 y:=fun y g1 g2=>(k3 y (by rw[kb y g1];exact g1) g2).trans (kb y g1)
    have vb:∀y,hq2 y≠none->zd (.slice a2 ms.length c2)≠some y->zd (.slice a11 (ms.length+1) c11)≠some y:=fun y g1 g2 g3=>by
     rcases r3 with r3 | r3
     ·exact g2 (r3▸g3)
     ·have:=r3 y g3;rw[kb y g1]at this;exact g1 this
    have oV:∀y,zd (.slice a10 (xs++(gSt bs xs.length r).2).length c10)=some y->zd (.slice a2 ms.length c2)≠some y:=fun y g1 g2=>ob y (s15.ne y (vH y g2).1) (vN y g2) g1
    have o9:=o6.keep fun y hy=>k2 y (o6.held y hy) (oV y hy)
    have pn:∀ {u:Value} {x:List Int},PN h' h1 u x->Part .u8 h9 u x/\∀y,zd u=some y->h y=none/\zd (.slice a10 (xs++(gSt bs xs.length r).2).length c10)≠some y/\zd (.slice a11 (ms.length+1) c11)≠some y:=fun Pu=>by
     have s25:=s2.trans s5
     have q1:∀y,zd _=some y->zd (.slice a1 xs.length c1)≠some y:=fun y hy g=>P.held y g (Pu.2 y hy)
     have q2:∀y,zd _=some y->zd (.slice a2 ms.length c2)≠some y:=fun y hy g=>(vH y g).1 (Pu.2 y hy)
     have q3:∀y,zd _=some y->hq2 y=h1 y:=fun y hy=>(k6 y (s25.ne y (Pu.1.held y hy)) (q1 y hy)).trans (LF s25 (Pu.1.held y hy))
     have q4:∀y,zd _=some y->hq2 y≠none:=fun y hy=>by rw[q3 y hy];exact Pu.1.held y hy
     exact⟨Pu.1.keep fun y hy=>(k2 y (q4 y hy) (q2 y hy)).trans (q3 y hy),fun y hy=>⟨zK s (Pu.2 y hy),ob y (s25.ne y (Pu.1.held y hy)) (q1 y hy),vb y (q4 y hy) (q2 y hy)⟩⟩
    intro _
    refine⟨⟨f1,gC2 bs xs.length r,xs++(gSt bs xs.length r).2,ms++[xK bs xs.length r],a10,c10,.slice a11 (ms.length+1) c11,usl++[U],by simp,okC2,fun _=>by omega,fun _=>by rw[List.length_append,List.length_singleton];omega,hDl2,o9,n6,?_,Nv3,fun y hy g=>?_,?_,s9,e⟩,?_⟩
    ·rw[List.length_append,List.length_singleton,BH OG];exact Ow3
    ·rcases r3 with r3 | r3
     ·exact oV y g (r3▸hy)
     ·have g1:=o6.held y g
      have:=r3 y hy;rw[kb y g1]at this;exact g1 this
    ·refine OGs.app ?_ (OG.keep fun y g1 g2=>?_)
     ·rw[<-hU]
      exact⟨(pn P4).1,(pn P5).1,(pn P6).1,fun y hy=>by
       rcases hy with g | g | g
       ·exact(pn P4).2 y g
       ·exact(pn P5).2 y g
       ·exact(pn P6).2 y g⟩
     ·have g3:=fr y g1 g2.2.1
      have g4:hq2 y≠none:=by rw[g3];exact g1
      exact⟨(k2 y g4 g2.2.2).trans g3,g2.1,ob y (s15.ne y g1) g2.2.1,vb y g4 g2.2.2⟩
    ·simp only[vB,vA,toInt_int,hz,hk,if_true]
     omega
  ·have hz:(gC2 bs xs.length r).k≠0:=by simpa using hz
   rw[if_neg hz]at e
   refine fun _=>⟨⟨f1,gC2 bs xs.length r,xs++(gSt bs xs.length r).2,ms,a10,c10,.slice a2 ms.length c2,usl,rfl,okC2,fun h=>absurd h hz,fun h=>absurd h hz,hDl2,o6,n6,Ow.keep fun y hy=>(vH y hy).2,Nv,fun y hy=>ob y (s15.ne y (vH y hy).1) (vN y hy),OG.keep fun y g1 g2=>⟨fr y g1 g2.2.1,g2.1,ob y (s15.ne y g1) g2.2.1,g2.2.2⟩,s6,e⟩,?_⟩
   simp only[vB,vA,toInt_int,hk,if_true,if_neg hz]
   omega
 ·have hcd:¬(r.k=0/\(r.i<8*(bs.length:Int)\/ms=[])):=fun h=>by
   rcases h with⟨h1,h2 | h2⟩ <;> simp[h1,h2]at hst
  rw[J2 hcd]at e
  by_cases hk:r.k=0
  ·have eA:qE bs=(1,xs,ms,(bs.length:Int)):=by unfold qE;rw[if_neg (by omega),<-e,if_neg (fun h=>h hk)]
   rw[eA,hk]
   exact⟨a1,c1,_,usl,rfl,P,N,Ow,Nv,OG.keep fun y _ g=>⟨rfl,g.1⟩,s⟩
  ·have eA:qE bs=(r.k,xs,ms,0):=by unfold qE;rw[if_neg (by omega),<-e,if_pos hk]
   have ek:(r.k==0)=false:=by simpa using hk
   rw[eA,ek]
   exact⟨a1,c1,_,usl,rfl,P,N,Ow,Nv,OG.keep fun y _ g=>⟨rfl,g.1⟩,s⟩
end
end
section
abbrev gmE(m:GM):List Int:=m.2.2.2.2.1
abbrev gmN(m:GM):List Int:=m.2.2.2.2.2.1
abbrev gmC(m:GM):List Int:=m.2.2.2.2.2.2.1
def smM(m:GM):Prop:=(gmE m).length<=70000/\(gmN m).length<=70000/\(gmC m).length<=70000
def Gr(m:GM):Nat:=5+(gmE m).length+(gmN m).length+(gmC m).length
def y9:List GM->Nat
 | []=>0
 | m::ms=>Gr m+y9 ms
def mkM(k:Int)(m:GM):GM:=(k,k+1,k+2,k+3,mkB (k+4) (gmE m),mkB (k+4+(gmE m).length) (gmN m),mkB (k+4+(gmE m).length+(gmN m).length) (gmC m),k+4+(gmE m).length+(gmN m).length+(gmC m).length)
def xT:Int->List GM->List GM
 | _,[]=>[]
 | k,m::ms=>mkM k m::xT (k+Gr m) ms
theorem Ij:∀ {k:Int} {ms:List GM},(xT k ms).length=ms.length
 | _,[]=>rfl
 | k,m::ms=>by simp[xT,Ij]
theorem Nm:∀ {k:Int} {ms ns:List GM},xT k (ms++ns)=xT k ms++xT (k+y9 ms) ns
 | k,[],ns=>by simp[xT,y9]
 | k,m::ms,ns=>by
  simp only[vJ,xT,Nm,y9]
  congr 2
  push_cast;congr 1;omega
theorem KY{ms ns:List GM}:y9 (ms++ns)=y9 ms+y9 ns:=by
 induction ms with
 | nil=>simp[y9]
 | cons m ms ih=>simp only[vJ,y9,ih];omega
theorem VH{m:GM}(H:smM m):Gr m<=210005:=by
 obtain⟨h1,h2,h3⟩:=H;unfold Gr;omega
theorem Nn:∀ {ms:List GM},(∀m∈ms,smM m)->y9 ms<=210005*ms.length
 | [],_=>by simp[y9]
 | m::ms,H=>by
  have h1:=VH (H m List.mem_cons_self)
  have h2:=Nn (ms:=ms) fun x hx=>H x (List.mem_cons_of_mem _ hx)
  simp only[y9,List.length_cons];omega
section
variable {S : Shared} {h h0 h' : Eng.Heap} {N N' : Nat -> Prop}
def RMs(h:Eng.Heap)(am:Option Addr)(ms:List GM)(us:List (Value×Value×Value)):Prop:=
 (∀(i:Nat) x,(yv ms us)[i]? = some x->am.isSome=true/\ze h ((am.getD default).add i)=some x)/\OGr h ms us
where OGr (h:Eng.Heap):List GM->List (Value×Value×Value)->Prop
 | [],[]=>True
 | m::ms,u::us=>(tB.R h u.1 (gmE m)/\tB.R h u.2.1 (gmN m)/\tB.R h u.2.2 (gmC m))/\OGr h ms us
 | _,_=>False
theorem OGr.sub(s:Eng.Sub h h'):∀ {ms:List GM} {us:List (Value×Value×Value)},RMs.OGr h ms us->RMs.OGr h' ms us
 | [],[],_=>trivial
 | _::_,_::_,H=>⟨⟨tB.Rsub H.1.1 s,tB.Rsub H.1.2.1 s,tB.Rsub H.1.2.2 s⟩,OGr.sub s H.2⟩
 | [],_::_,H=>H.elim
 | _::_,[],H=>H.elim
theorem RMs.sub{am:Option Addr}{ms:List GM}{us:List (Value×Value×Value)}(H:RMs h am ms us)(s:Eng.Sub h h'):RMs h' am ms us:=
 ⟨fun i x hx=>⟨(H.1 i x hx).1,xO s (H.1 i x hx).2⟩,OGr.sub s H.2⟩
theorem OGs.r:∀ {ms:List GM} {us:List (Value×Value×Value)},OGs h N ms us->RMs.OGr h ms us
 | [],[],_=>trivial
 | _::_,_::_,H=>⟨⟨tB.OR H.1.1,tB.OR H.1.2.1,tB.OR H.1.2.2.1⟩,OGs.r H.2⟩
 | [],_::_,H=>H.elim
 | _::_,[],H=>H.elim
theorem yE.rms{am:Option Addr}{l c n:Nat}{ms:List GM}{us:List (Value×Value×Value)}(Ow:yE 8 h (.slice am l c) n (yv ms us))(H:OGs h N ms us):RMs h am ms us:=
 ⟨fun i x hx=>⟨(Ow.cell hx).2.1,(Ow.cell hx).1⟩,OGs.r H⟩
theorem OGr.len:∀ {ms:List GM} {us:List (Value×Value×Value)},RMs.OGr h ms us->ms.length=us.length
 | [],[],_=>rfl
 | _::_,_::_,H=>by simp[OGr.len H.2]
 | [],_::_,H=>H.elim
 | _::_,[],H=>H.elim
theorem CE:∀ {ms:List GM} {us:List (Value×Value×Value)} {ns:List GM} {vs:List (Value×Value×Value)},ms.length=us.length->yv (ms++ns) (us++vs)=yv ms us++yv ns vs
 | [],[],_,_,_=>rfl
 | m::ms,u::us,ns,vs,h=>by simp only[vJ,yv];rw[CE (by simpa using h),List.append_assoc]
 | [],_::_,_,_,h=>by simp at h
 | _::_,[],_,_,h=>by simp at h
theorem J3:∀ {ms:List GM} {us:List (Value×Value×Value)},ms.length=us.length->(yv ms us).length=8*ms.length
 | [],[],_=>rfl
 | m::ms,u::us,h=>by
  have:=J3 (ms:=ms) (us:=us) (by simpa using h)
  simp only[yv,List.length_append,this,List.length_cons,el8];simp;omega
 | [],_::_,h=>by simp at h
 | _::_,[],h=>by simp at h
theorem OGr.at:∀ {ms:List GM} {us:List (Value×Value×Value)} {i:Nat},RMs.OGr h ms us->i<ms.length->∃m u,m∈ms/\(tB.R h u.1 (gmE m)/\tB.R h u.2.1 (gmN m)/\tB.R h u.2.2 (gmC m))/\ms[i]? = some m/\∀(j:Nat) x,(el8 m u)[j]? = some x->(yv ms us)[8*i+j]? = some x
 | m::ms,u::us,0,H,_=>⟨m,u,List.mem_cons_self,H.1,rfl,fun j x hx=>by
   simp only[yv];rw[List.getElem?_append_left (by have:=(List.getElem?_eq_some_iff.1 hx).1;omega)];simpa using hx⟩
 | m::ms,u::us,i+1,H,hi=>by
  obtain⟨m',u',g0,g1,g2,g3⟩:=OGr.at (i:=i) H.2 (by simpa using hi)
  refine⟨m',u',List.mem_cons_of_mem _ g0,g1,by simpa using g2,fun j x hx=>?_⟩
  simp only[yv]
  rw[List.getElem?_append_right (by simp[el8];omega)]
  have e:8*(i+1)+j-(el8 m u).length=8*i+j:=by simp[el8];omega
  rw[e];exact g3 j x hx
 | [],[],_,_,hi=>by simp at hi
 | [],_::_,_,H,_=>H.elim
 | _::_,[],_,H,_=>H.elim
theorem RMs.ld{am:Option Addr}{ms:List GM}{us:List (Value×Value×Value)}{i:Nat}(H:RMs h am ms us)(hi:i<ms.length) :
  ∃m u,m∈ms/\(tB.R h u.1 (gmE m)/\tB.R h u.2.1 (gmN m)/\tB.R h u.2.2 (gmC m))/\ms[i]? = some m/\(!am.isNone)=true/\∀(p j:Nat) x,p=i*8->(el8 m u)[j]? = some x->ze h (((am.getD default).add p).add j)=some x:=by
 obtain⟨m,u,g0,g1,g2,g3⟩:=OGr.at H.2 hi
 refine⟨m,u,g0,g1,g2,?_,fun p j x e hx=>?_⟩
 ·have:=(H.1 _ _ (g3 0 _ rfl)).1
  cases am with
  | none=>cases this
  | some _=>rfl
 ·rw[add_add,e,Nat.mul_comm];exact(H.1 _ _ (g3 j x hx)).2
theorem VI(hi:Eng.Inv S h){n0 n1 n2 n3 n7:Int}{u4 u5 u6 w4 w5 w6:Value}{xs ys zs:List Int}(H1:tB.R h u4 xs)(H2:tB.R h u5 ys)(H3:tB.R h u6 zs)(G1:tB.R h w4 xs)(G2:tB.R h w5 ys)(G3:tB.R h w6 zs)(l1:xs.length<=70000)(l2:ys.length<=70000)(l3:zs.length<=70000) :
  zb Tryz.prog S wY #[.agg #[.int .i64 n0,.int .i64 n1,.int .i64 n2,.int .i64 n3,u4,u5,u6,.int .i64 n7],.agg #[.int .i64 n0,.int .i64 n1,.int .i64 n2,.int .i64 n3,w4,w5,w6,.int .i64 n7]] h (fun v h'=>v=.bool true/\h'=h):=by
 obtain⟨a1,c1,rfl⟩:=xH H1
 obtain⟨a2,c2,rfl⟩:=xH H2
 obtain⟨a3,c3,rfl⟩:=xH H3
 obtain⟨b1,d1,rfl⟩:=xH G1
 obtain⟨b2,d2,rfl⟩:=xH G2
 obtain⟨b3,d3,rfl⟩:=xH G3
 refine He (vs:=[.int .i64 n0,.int .i64 n1,.int .i64 n2,.int .i64 n3,.slice a1 xs.length c1,.slice a2 ys.length c2,.slice a3 zs.length c3,.int .i64 n7,.int .i64 n0,.int .i64 n1,.int .i64 n2,.int .i64 n3,.slice b1 xs.length d1,.slice b2 ys.length d2,.slice b3 zs.length d3,.int .i64 n7]) ⟨rfl,rfl,rfl,rfl,rfl,rfl,rfl,rfl,rfl,rfl,rfl,rfl,rfl,rfl,rfl,rfl,trivial⟩ hi ?_
 simp only[CX,Tr.wp,zA,Ex.ev,coerce,toInt_int,zc,zg,zk,zh,zB,Cst.val,SV.den,zr,zF,zz,zn,zl,zx,vF,vG,vA,vB,vD,vE,vJ,vI,vK,and_true,true_and,if_false,vL]
 have sm:∀ {l:List Int},l.length<=70000->smB l:=fun h=>Nat.le_trans h (by decide)
 refine⟨fun hne=>by simp at hne,fun _=>⟨fun hne=>by simp at hne,fun _=>⟨fun hne=>by simp at hne,fun _=>⟨fun hne=>by simp at hne,fun _=>?_⟩⟩⟩⟩
 refine(Je hi H1 G1 (sm l1)).mono ?_
 rintro _ _ ⟨rfl,rfl⟩
 refine⟨_,rfl,fun hne=>by simp at hne,fun _=>?_⟩
 refine(Je hi H2 G2 (sm l2)).mono ?_
 rintro _ _ ⟨rfl,rfl⟩
 refine⟨_,rfl,fun hne=>by simp at hne,fun _=>?_⟩
 refine(Je hi H3 G3 (sm l3)).mono ?_
 rintro _ _ ⟨rfl,rfl⟩
 exact⟨_,rfl,fun hne=>by simp at hne,fun _=>⟨fun hne=>by simp at hne,fun _=>rfl⟩⟩
theorem Uw(hi:Eng.Inv S h){am bm:Option Addr}{cm dm:Nat}{ms:List GM}{us vs:List (Value×Value×Value)}(H:RMs h am ms us)(G:RMs h bm ms vs)(hs:∀m∈ms,smM m)(hl:ms.length<=1000000) :
  zb Tryz.prog S wq #[.slice am ms.length cm,.slice bm ms.length dm] h (fun v h'=>v=.bool true/\h'=h):=by
 refine FQ (vs:=[.slice am ms.length cm,.slice bm ms.length dm]) ⟨rfl,rfl,trivial⟩ hi ?_
 simp only[Cu,Tr.wp,zA,Ex.ev,coerce,toInt_int,zc,zg,zk,zh,zf,zV,zB,arith,Cst.val,SV.den,zr,zF,zz,zn,zl,zx,zJ,zt,vF,vG,vA,vB,vC,List.getElem?_cons_succ,decide_eq_true_eq,decide_eq_false_iff_not,vD,vE,vJ,vI,vK,Nat.zero_add,and_true,true_and,if_false,vL]
 refine⟨fun hne=>by simp at hne,fun _=>?_⟩
 refine⟨fun us' h'=>∃i:Nat,us'=[.int .i64 i]/\i<=ms.length/\h'=h,fun us' _=>ms.length-(toInt (us'.getD 0 undef)).toNat,⟨0,rfl,by omega,rfl⟩,?_⟩
 rintro z h' ⟨i,hx1,hi2,rfl⟩
 obtain rfl:z=i:=by simpa using hx1
 refine⟨fun hlt=>?_,fun hge=>rfl⟩
 have hi3:i<ms.length:=by omega
 obtain⟨m,u,hm,⟨R1,R2,R3⟩,em,nn,ld⟩:=H.ld hi3
 obtain⟨m2,u2,hm2,⟨Q1,Q2,Q3⟩,em2,nn2,ld2⟩:=G.ld hi3
 obtain rfl:m=m2:=Option.some.inj (em.symm.trans em2)
 obtain⟨a1,c1,e1⟩:=xH R1
 obtain⟨a2,c2,e2⟩:=xH R2
 obtain⟨a3,c3,e3⟩:=xH R3
 obtain⟨b1,d1,f1⟩:=xH Q1
 obtain⟨b2,d2,f2⟩:=xH Q2
 obtain⟨b3,d3,f3⟩:=xH Q3
 obtain⟨u1,u2',u3⟩:=u
 obtain⟨w1,w2,w3⟩:=u2
 simp only at e1 e2 e3 f1 f2 f3
 subst e1 e2 e3 f1 f2 f3
 have w2:IntKind.i64.wrap ((i:Int)+1)=((i+1:Nat):Int):=by rw[i64_in _ (by omega)];omega
 have ei:((i:Int)).toNat*8=i*8:=by simp
 rw[w2]
 refine⟨nn,by omega,by omega,_,_,_,_,_,_,_,_,_,_,_,_,_,_,⟨ld _ 0 _ ei rfl,ld _ 1 _ ei rfl,ld _ 2 _ ei rfl,ld _ 3 _ ei rfl,ld _ 4 _ ei rfl,ld _ 5 _ ei rfl,ld _ 6 _ ei rfl,ld _ 7 _ ei rfl⟩,nn2,by omega,by omega,_,_,_,_,_,_,_,_,_,_,_,_,_,_,⟨ld2 _ 0 _ ei rfl,ld2 _ 1 _ ei rfl,ld2 _ 2 _ ei rfl,ld2 _ 3 _ ei rfl,ld2 _ 4 _ ei rfl,ld2 _ 5 _ ei rfl,ld2 _ 6 _ ei rfl,ld2 _ 7 _ ei rfl⟩,?_⟩
 obtain⟨s1,s2,s3⟩:=hs m hm
 refine(VI hi R1 R2 R3 Q1 Q2 Q3 s1 s2 s3).mono ?_
 rintro _ _ ⟨rfl,rfl⟩
 exact⟨_,rfl,fun hne=>by simp at hne,fun _=>⟨⟨i+1,rfl,by omega,rfl⟩,by simp only[vA,toInt_int];omega⟩⟩
end
end
section
theorem OU:∀ {ms:List GM} {i:Nat} {k:Int} {m:GM},ms[i]? = some m->(xT k ms)[i]? = some (mkM (k+y9 (ms.take i)) m)
 | m::ms,0,k,m',h=>by
  obtain rfl:m=m':=by simpa using h
  simp[xT,y9]
 | m::ms,i+1,k,m',h=>by
  have:=OU (ms:=ms) (i:=i) (k:=k+Gr m) (m:=m') (by simpa using h)
  simp only[xT,List.getElem?_cons_succ,List.take_succ_cons,y9,this]
  congr 2;push_cast;omega
 | [],_,_,_,h=>by simp at h
theorem J4{ms:List GM}{i:Nat}{m:GM}(h:ms[i]? = some m):y9 (ms.take (i+1))=y9 (ms.take i)+Gr m:=by
 rw[List.take_add_one,h,Option.toList_some,KY];simp[y9]
theorem Fe{ms:List GM}(i:Nat):y9 (ms.take i)<=y9 ms:=by
 conv=>rhs;rw[<-List.take_append_drop i ms,KY]
 omega
section
variable {S : Shared} {h h0 h' : Eng.Heap} {N N' : Nat -> Prop}
theorem Qr(hi:Eng.Inv S h){am:Option Addr}{cm:Nat}{ms:List GM}{us:List (Value×Value×Value)}{k:Int}(H:RMs h am (xT k ms) us)(k0:0<=k)(kb:k+y9 ms<=1000000000000000)(hs:∀m∈ms,smM m)(hl:ms.length<=1000000) :
  zb Tryz.prog S qw #[.slice am ms.length cm,.int .i64 k] h (fun v h'=>v=.int .i64 (k+y9 ms)/\h'=h):=by
 refine E4 (vs:=[.slice am ms.length cm,.int .i64 k]) ⟨rfl,rfl,trivial⟩ hi ?_
 simp only[Bh,Tr.wp,zA,Ex.ev,coerce,toInt_int,zc,zg,zk,zh,zf,zV,zB,arith,Cst.val,SV.den,zr,zF,zz,zn,zl,zx,zJ,zt,vF,vG,vA,vB,vC,decide_eq_true_eq,decide_eq_false_iff_not,vD,vE,vJ,vI,vK,and_true,if_false,vL]
 refine⟨fun us' h'=>∃i:Nat,us'=[.int .i64 (k+y9 (ms.take i)),.int .i64 i]/\i<=ms.length/\h'=h,fun us' _=>ms.length-(toInt (us'.getD 1 undef)).toNat,⟨0,by simp[y9],by omega,rfl⟩,?_⟩
 rintro z1 z h' ⟨i,hx1,hi2,rfl⟩
 simp only[List.cons.injEq,Value.int.injEq,true_and,and_true]at hx1
 obtain⟨rfl,rfl⟩:=hx1
 refine⟨fun hlt=>?_,fun hge=>?_⟩
 ·have hi3:i<(xT k ms).length:=by rw[Ij];omega
  obtain⟨mm,u,hm,⟨R1,R2,R3⟩,em,nn,ld⟩:=H.ld hi3
  have hi4:i<ms.length:=by omega
  have e0:=OU (k:=k) (List.getElem?_eq_getElem hi4)
  obtain rfl:mkM (k+y9 (ms.take i)) ms[i]=mm:=Option.some.inj (e0.symm.trans em)
  obtain⟨s1,s2,s3⟩:=hs ms[i] (List.getElem_mem hi4)
  have ct:=J4 (List.getElem?_eq_getElem hi4)
  have cl:=Fe (ms:=ms) (i+1)
  generalize ms[i]=m at *
  have ei:((i:Int)).toNat*8=i*8:=by simp
  have ldf:∀(j:Nat) x,(el8 (mkM (k+y9 (ms.take i)) m) u)[j]? = some x->ze h' ((((am.getD default).add ((i:Int).toNat*8)).add j).add 0)=some x:=fun j x hx=>by rw[add_add ((am.getD default).add _)];exact ld _ j x ei hx
  generalize hkk:k+((y9 (ms.take i):Nat):Int)=kk at e0 hm R1 R2 R3 em ld ldf ⊢
  have hc:Gr m=5+(gmE m).length+(gmN m).length+(gmC m).length:=rfl
  have sm:∀ {l:List Int},l.length<=70000->smB l:=fun h=>Nat.le_trans h (by decide)
  have w1:IntKind.i64.wrap (kk+1)=kk+1:=i64_in _ (by omega)
  have w2:IntKind.i64.wrap (kk+1+1)=kk+2:=by rw[i64_in _ (by omega)];omega
  have w3:IntKind.i64.wrap (kk+2+1)=kk+3:=by rw[i64_in _ (by omega)];omega
  have w4:IntKind.i64.wrap (kk+3+1)=kk+4:=by rw[i64_in _ (by omega)];omega
  simp only[w1,w2,w3,w4]
  obtain⟨v1,v2,v3⟩:=u
  obtain⟨a1,c1,e1⟩:=xH R1
  obtain⟨a2,c2,e2⟩:=xH R2
  obtain⟨a3,c3,e3⟩:=xH R3
  simp only at e1 e2 e3
  subst e1 e2 e3
  refine⟨nn,by omega,by omega,_,ldf 0 _ rfl,fun hne=>by simp[mkM]at hne,fun _=>?_⟩
  refine⟨nn,by omega,by omega,_,ldf 1 _ rfl,fun hne=>by simp[mkM]at hne,fun _=>?_⟩
  refine⟨nn,by omega,by omega,_,ldf 2 _ rfl,fun hne=>by simp[mkM]at hne,fun _=>?_⟩
  refine⟨nn,by omega,by omega,_,ldf 3 _ rfl,fun hne=>by simp[mkM]at hne,fun _=>?_⟩
  refine⟨nn,by omega,by omega,_,_,_,ldf 4 _ rfl,?_⟩
  refine(GC hi (kk+4) R1 (by omega) (by omega) (sm s1)).mono ?_
  rintro _ _ ⟨rfl,rfl⟩
  refine⟨_,rfl,fun hn=>by omega,fun _=>?_⟩
  refine⟨nn,by omega,by omega,_,_,_,ldf 5 _ rfl,?_⟩
  have b1:xp (gmE m)=(gmE m).length:=rfl
  have b2:xp (gmN m)=(gmN m).length:=rfl
  have b3:xp (gmC m)=(gmC m).length:=rfl
  refine(GC hi (kk+4+(xp (gmE m):Nat)) R2 (by omega) (by omega) (sm s2)).mono ?_
  rintro _ _ ⟨rfl,rfl⟩
  refine⟨_,rfl,fun hn=>by omega,fun _=>?_⟩
  refine⟨nn,by omega,by omega,_,_,_,ldf 6 _ rfl,?_⟩
  refine(GC hi (kk+4+(xp (gmE m):Nat)+(xp (gmN m):Nat)) R3 (by omega) (by omega) (sm s3)).mono ?_
  rintro _ _ ⟨rfl,rfl⟩
  refine⟨_,rfl,fun hn=>by omega,fun _=>?_⟩
  refine⟨nn,by omega,by omega,_,ldf 7 _ rfl,fun hne=>by simp[mkM,xp]at hne,fun _=>?_⟩
  have wi:IntKind.i64.wrap ((i:Int)+1)=((i+1:Nat):Int):=by rw[i64_in _ (by omega)];omega
  have wk:IntKind.i64.wrap (kk+4+(xp (gmE m):Nat)+(xp (gmN m):Nat)+(xp (gmC m):Nat)+1)=k+((y9 (ms.take (i+1)):Nat):Int):=by rw[i64_in _ (by omega)];omega
  rw[wi,wk]
  exact⟨⟨i+1,rfl,by omega,rfl⟩,by simp only[vB,vA,toInt_int];omega⟩
 ·obtain rfl:i=ms.length:=by omega
  rw[List.take_length]
  exact⟨rfl,rfl⟩
end
end
section
section
variable {S : Shared} {h h0 h' : Eng.Heap} {N N' : Nat -> Prop}
theorem yE.put{sz l c n p:Nat}{a:Option Addr}{vs:List Value}(H:yE sz h (.slice a l c) n vs)(hb:∀b,zd (.slice a l c)=some b->¬S b)(hp:p<vs.length)(v:Value) :
  yC S h ((a.getD default).add p)/\yE sz (zw h ((a.getD default).add p) v) (.slice a l c) n (vs.set p v)/\∀b,zd (.slice a l c)≠some b->zw h ((a.getD default).add p) v b=h b:=by
 obtain⟨hl,⟨e,rfl⟩ | ⟨b,sp,T,m,e,hs,hb2⟩⟩:=H
 ·simp at hl;rw[hl]at hp;simp at hp
 ·cases e
  simp only[Option.getD_some,zS]
  have hx:(vs++sp)[p]? = some vs[p]:=by rw[List.getElem?_append_left hp];exact List.getElem?_eq_getElem hp
  have e2:zw h ⟨b,p,none⟩ v=upd h b (.cells (vs.set p v++sp).toArray T):=by
   rw[hset_cells' hb2,List.setIfInBounds_toArray,List.set_append_left _ _ hp]
  refine⟨⟨⟨_,by simp only[ze,hb2,List.getElem?_toArray];exact hx⟩,by simp[yf,hb2],hb b rfl⟩,?_,fun y hy=>?_⟩
  ·rw[e2];exact⟨by rw[List.length_set];exact hl,.inr ⟨b,sp,T,m,rfl,hs,upd_same⟩⟩
  ·rw[e2];exact upd_ne fun e=>hy (by rw[e];rfl)
theorem Ej{A e B:List Value}{i j:Nat}(hA:A.length=8*i)(hj:j<e.length)(v:Value):(A++(e++B)).set (8*i+j) v=A++(e.set j v++B):=by
 rw[List.set_append_right _ _ (by omega),hA,Nat.add_sub_cancel_left,List.set_append_left _ _ hj]
theorem GS{A e B:List Value}{i j:Nat}(hA:A.length=8*i)(hj:j<e.length):(A++(e++B))[8*i+j]? = e[j]? := by
 rw[List.getElem?_append_right (by omega),hA,Nat.add_sub_cancel_left,List.getElem?_append_left hj]
theorem OGs.split:∀ {p:List GM} {ua:List (Value×Value×Value)} {q:List GM} {ub:List (Value×Value×Value)},p.length=ua.length->(OGs h N (p++q) (ua++ub)<->OGs h N p ua/\OGs h N q ub)
 | [],[],_,_,_=>⟨fun H=>⟨trivial,H⟩,fun H=>H.2⟩
 | m::p,u::ua,q,ub,hl=>by
  have:=OGs.split (p:=p) (ua:=ua) (q:=q) (ub:=ub) (by simpa using hl)
  constructor
  ·exact fun H=>⟨⟨H.1,(this.1 H.2).1⟩,(this.1 H.2).2⟩
  ·exact fun H=>⟨H.1.1,this.2 ⟨H.1.2,H.2⟩⟩
 | [],_::_,_,_,hl=>by simp at hl
 | _::_,[],_,_,hl=>by simp at hl
theorem OGs.self:∀ {ms:List GM} {us:List (Value×Value×Value)},OGs h N ms us->OGs h (fun y=>y∈yy us) ms us
 | [],[],_=>trivial
 | m::ms,u::us,H=>by
  refine⟨⟨H.1.1,H.1.2.1,H.1.2.2.1,fun y hy=>?_⟩,(OGs.self H.2).keep fun y _ g=>⟨rfl,?_⟩⟩
  ·show y∈kQ u++yy us;exact List.mem_append_left _ (yq.2 hy)
  ·show y∈kQ u++yy us;exact List.mem_append_right _ g
 | [],_::_,H=>H.elim
 | _::_,[],H=>H.elim
theorem OGs.len:∀ {ms:List GM} {us:List (Value×Value×Value)},OGs h N ms us->ms.length=us.length
 | [],[],_=>rfl
 | _::_,_::_,H=>by simp[OGs.len H.2]
 | [],_::_,H=>H.elim
 | _::_,[],H=>H.elim
theorem AR{us vs:List (Value×Value×Value)}:yy (us++vs)=yy us++yy vs:=by simp[yy]
theorem VJ{u:Value×Value×Value}(H:(kQ u).Nodup):D3 u.1 u.2.1 u.2.2:=by
 unfold kQ at H
 obtain⟨_,h2,h3⟩:=List.nodup_append.1 H
 obtain⟨_,_,h4⟩:=List.nodup_append.1 h2
 exact⟨fun y g1 g2=>h3 y (xL.2 g1) y (List.mem_append_left _ (xL.2 g2)) rfl,fun y g1 g2=>h3 y (xL.2 g1) y (List.mem_append_right _ (xL.2 g2)) rfl,fun y g1 g2=>h4 y (xL.2 g1) y (xL.2 g2) rfl⟩
def MK(h:Eng.Heap)(vm:Value)(k:Int)(ms:List GM)(us:List (Value×Value×Value))(i:Nat)(h':Eng.Heap):Prop:=
 yE 8 h' vm ms.length (yv (xT k (ms.take i)++ms.drop i) us)/\OGs h' (fun y=>y∈yy us) (xT k (ms.take i)++ms.drop i) us/\∀b,zd vm≠some b->b∉yy us->h' b=h b
theorem Qs(hi:Eng.Inv S h){am:Option Addr}{cm:Nat}{ms:List GM}{us:List (Value×Value×Value)}{k:Int}(Ow:yE 8 h (.slice am ms.length cm) ms.length (yv ms us))(OG:OGs h N ms us)(nv:∀y∈yy us,zd (.slice am ms.length cm)≠some y)(nd:(yy us).Nodup)
  (hb:∀b,zd (.slice am ms.length cm)=some b\/b∈yy us->¬S b)(k0:0<=k)(kb:k+y9 ms<=1000000000000000)(hs:∀m∈ms,smM m)(hl:ms.length<=1000000) :
  zb Tryz.prog S qu #[.slice am ms.length cm,.int .i64 k] h (fun v h'=>v=.int .i64 (k+y9 ms)/\yE 8 h' (.slice am ms.length cm) ms.length (yv (xT k ms) us)/\OGs h' (fun y=>y∈yy us) (xT k ms) us/\∀b,zd (.slice am ms.length cm)≠some b->b∉yy us->h' b=h b):=by
 refine E3 (vs:=[.slice am ms.length cm,.int .i64 k]) ⟨rfl,rfl,trivial⟩ hi ?_
 simp only[Bg,Tr.wp,zA,Ex.ev,coerce,toInt_int,zc,zg,zk,zh,zf,zV,zB,arith,Cst.val,SV.den,zr,zF,zz,zn,zl,zx,zJ,zt,zL,vF,vG,vA,vB,vC,decide_eq_true_eq,decide_eq_false_iff_not,vD,vE,vJ,vI,vK,and_true,if_false,vL]
 refine⟨fun us' h'=>∃i:Nat,us'=[.int .i64 (k+y9 (ms.take i)),.int .i64 i]/\i<=ms.length/\MK h (.slice am ms.length cm) k ms us i h',fun us' _=>ms.length-(toInt (us'.getD 1 undef)).toNat,⟨0,by simp[y9],by omega,?_⟩,?_⟩
 ·refine⟨?_,?_,fun _ _ _=>rfl⟩
  ·simpa[xT]using Ow
  ·simpa[xT]using OG.self
 rintro z1 z h' ⟨i,hx1,hi2,W,OG',fr⟩
 simp only[List.cons.injEq,Value.int.injEq,true_and,and_true]at hx1
 obtain⟨rfl,rfl⟩:=hx1
 refine⟨fun hlt=>?_,fun hge=>?_⟩
 ·have hi4:i<ms.length:=by omega
  have hul:=OG.len
  obtain⟨ua,u,ub,eu,lua⟩:∃ua u ub,us=ua++u::ub/\ua.length=i:=⟨us.take i,us[i]'(by omega),us.drop (i+1),by rw[<-List.drop_eq_getElem_cons];exact(List.take_append_drop i us).symm,by rw[List.length_take];omega⟩
  have ed:ms.drop i=ms[i]::ms.drop (i+1):=List.drop_eq_getElem_cons hi4
  obtain⟨s1,s2,s3⟩:=hs ms[i] (List.getElem_mem hi4)
  have ct:=J4 (List.getElem?_eq_getElem hi4)
  have cl:=Fe (ms:=ms) (i+1)
  have et:ms.take (i+1)=ms.take i++[ms[i]]:=by rw[List.take_add_one,List.getElem?_eq_getElem hi4];rfl
  have hpl:(xT k (ms.take i)).length=ua.length:=by rw[Ij,List.length_take,lua];omega
  rw[ed,eu]at W OG'
  rw[CE hpl]at W
  obtain⟨OA,⟨P1,P2,P3,_⟩,OB⟩:=(OGs.split hpl).1 OG'
  have hAl:(yv (xT k (ms.take i)) ua).length=8*i:=by rw[J3 hpl,hpl,lua]
  have eC:yv (ms[i]::ms.drop (i+1)) (u::ub)=el8 ms[i] u++yv (ms.drop (i+1)) ub:=rfl
  rw[eC]at W
  rw[eu,AR]at nd
  obtain⟨_,ndu,dis⟩:=List.nodup_append.1 nd
  have ndu:(kQ u++yy ub).Nodup:=ndu
  obtain⟨nd3,_,dis2⟩:=List.nodup_append.1 ndu
  have D:=VJ nd3
  have inU:∀y,y∈kQ u->y∈yy us:=fun y hy=>by rw[eu,AR];exact List.mem_append_right _ (show y∈kQ u++yy ub from List.mem_append_left _ hy)
  have nvu:∀y,y∈kQ u->zd (.slice am ms.length cm)≠some y:=fun y hy=>nv y (inU y hy)
  have inv:∀g:Eng.Heap,(∀b,zd (.slice am ms.length cm)≠some b->b∉yy us->g b=h b)->Eng.Inv S g:=fun g F b hsb hn=>hi b hsb (by rw[<-F b (fun e=>hb b (.inl e) hsb) (fun e=>hb b (.inr e) hsb)];exact hn)
  generalize ms[i]=m at *
  generalize hkk:k+((y9 (ms.take i):Nat):Int)=kk at ⊢
  have hc:Gr m=5+(gmE m).length+(gmN m).length+(gmC m).length:=rfl
  have sm:∀ {l:List Int},l.length<=70000->smB l:=fun h=>Nat.le_trans h (by decide)
  have w1:IntKind.i64.wrap (kk+1)=kk+1:=i64_in _ (by omega)
  have w2:IntKind.i64.wrap (kk+1+1)=kk+2:=by rw[i64_in _ (by omega)];omega
  have w3:IntKind.i64.wrap (kk+2+1)=kk+3:=by rw[i64_in _ (by omega)];omega
  have w4:IntKind.i64.wrap (kk+3+1)=kk+4:=by rw[i64_in _ (by omega)];omega
  have ea:∀j,(((am.getD default).add ((i:Int).toNat*8)).add j).add 0=(am.getD default).add (8*i+j):=fun j=>by rw[add_add,add_add];congr 1;simp;omega
  simp only[ea,w1,w2,w3,w4]
  generalize hA:yv (xT k (ms.take i)) ua=A at W hAl
  generalize hB:yv (ms.drop (i+1)) ub=B at W
  have hvS:∀b,zd (.slice am ms.length cm)=some b->¬S b:=fun b h=>hb b (.inl h)
  have nn:(!am.isNone)=true:=by
   have:=(W.cell (i:=8*i+0) (x:=.int .i64 m.1) (by rw[GS hAl (by simp[el8])];rfl)).2.1
   cases am with
   | none=>cases this
   | some _=>rfl
  obtain⟨o0,W0,f0⟩:=yE.put W hvS (p:=8*i+0) (by simp[hAl,el8]) (.int .i64 kk)
  rw[Ej hAl (by simp[el8])]at W0
  refine⟨nn,by omega,by omega,o0,?_⟩
  generalize zw h' ((am.getD default).add (8*i+0)) (.int .i64 kk)=g0 at W0 f0 ⊢
  obtain⟨o1,W1,f1⟩:=yE.put W0 hvS (p:=8*i+1) (by simp[hAl,el8]) (.int .i64 (kk+1))
  rw[Ej hAl (by simp[el8])]at W1
  refine⟨nn,by omega,by omega,o1,?_⟩
  generalize zw g0 ((am.getD default).add (8*i+1)) (.int .i64 (kk+1))=g1 at W1 f1 ⊢
  obtain⟨o2,W2,f2⟩:=yE.put W1 hvS (p:=8*i+2) (by simp[hAl,el8]) (.int .i64 (kk+2))
  rw[Ej hAl (by simp[el8])]at W2
  refine⟨nn,by omega,by omega,o2,?_⟩
  generalize zw g1 ((am.getD default).add (8*i+2)) (.int .i64 (kk+2))=g2 at W2 f2 ⊢
  obtain⟨o3,W3,f3⟩:=yE.put W2 hvS (p:=8*i+3) (by simp[hAl,el8]) (.int .i64 (kk+3))
  rw[Ej hAl (by simp[el8])]at W3
  refine⟨nn,by omega,by omega,o3,nn,by omega,by omega,?_⟩
  generalize zw g2 ((am.getD default).add (8*i+3)) (.int .i64 (kk+3))=g3 at W3 f3 ⊢
  have F3:∀y,zd (.slice am ms.length cm)≠some y->g3 y=h' y:=fun y hy=>(f3 y hy).trans ((f2 y hy).trans ((f1 y hy).trans (f0 y hy)))
  obtain⟨v1,v2,v3⟩:=u
  obtain⟨a1,c1,e1,_,_⟩:=P1.ints
  obtain⟨a2,c2,e2,_,_⟩:=P2.ints
  obtain⟨a3,c3,e3,_,_⟩:=P3.ints
  simp only at e1 e2 e3
  subst e1 e2 e3
  have P1:=P1.keep fun y hy=>F3 y (nvu y (yq.2 (.inl hy)))
  have P2:=P2.keep fun y hy=>F3 y (nvu y (yq.2 (.inr (.inl hy))))
  have P3:=P3.keep fun y hy=>F3 y (nvu y (yq.2 (.inr (.inr hy))))
  have b1:xp (gmE m)=(gmE m).length:=rfl
  have b2:xp (gmN m)=(gmN m).length:=rfl
  have b3:xp (gmC m)=(gmC m).length:=rfl
  refine⟨_,_,_,(W3.cell (i:=8*i+4) (by rw[GS hAl (by simp[el8])];rfl)).1,?_⟩
  have I3:=inv g3 fun b h1 h2=>(F3 b h1).trans (fr b h1 h2)
  refine(DY I3 P1 (fun b hB=>hb b (.inr (inU b (yq.2 (.inl hB))))) (kk+4) (by omega) (by omega) (sm s1)).mono ?_
  rintro _ g4 ⟨rfl,O1,f4⟩
  refine⟨_,rfl,nn,by omega,by omega,?_⟩
  have W4:=W3.keep fun y hy=>f4 y fun e=>nvu y (yq.2 (.inl e)) hy
  have P2:=P2.keep fun y hy=>f4 y fun e=>D.1 y e hy
  have P3:=P3.keep fun y hy=>f4 y fun e=>D.2.1 y e hy
  have nb4:∀b,b∉yy us->g4 b=g3 b:=fun b h2=>f4 b fun e=>h2 (inU b (yq.2 (.inl e)))
  refine⟨_,_,_,(W4.cell (i:=8*i+5) (by rw[GS hAl (by simp[el8])];rfl)).1,?_⟩
  have I4:=inv g4 fun b h1 h2=>(nb4 b h2).trans ((F3 b h1).trans (fr b h1 h2))
  refine(DY I4 P2 (fun b hB=>hb b (.inr (inU b (yq.2 (.inr (.inl hB)))))) (kk+4+(xp (gmE m):Nat)) (by omega) (by omega) (sm s2)).mono ?_
  rintro _ g5 ⟨rfl,O2,f5⟩
  refine⟨_,rfl,nn,by omega,by omega,?_⟩
  have W5:=W4.keep fun y hy=>f5 y fun e=>nvu y (yq.2 (.inr (.inl e))) hy
  have O1:=tB.Okeep O1 fun y hy=>f5 y fun e=>D.1 y hy e
  have P3:=P3.keep fun y hy=>f5 y fun e=>D.2.2 y e hy
  have nb5:∀b,b∉yy us->g5 b=g4 b:=fun b h2=>f5 b fun e=>h2 (inU b (yq.2 (.inr (.inl e))))
  refine⟨_,_,_,(W5.cell (i:=8*i+6) (by rw[GS hAl (by simp[el8])];rfl)).1,?_⟩
  have I5:=inv g5 fun b h1 h2=>(nb5 b h2).trans ((nb4 b h2).trans ((F3 b h1).trans (fr b h1 h2)))
  refine(DY I5 P3 (fun b hB=>hb b (.inr (inU b (yq.2 (.inr (.inr hB)))))) (kk+4+(xp (gmE m):Nat)+(xp (gmN m):Nat)) (by omega) (by omega) (sm s3)).mono ?_
  rintro _ g6 ⟨rfl,O3,f6⟩
  have W6:=W5.keep fun y hy=>f6 y fun e=>nvu y (yq.2 (.inr (.inr e))) hy
  have O1:=tB.Okeep O1 fun y hy=>f6 y fun e=>D.2.1 y hy e
  have O2:=tB.Okeep O2 fun y hy=>f6 y fun e=>D.2.2 y hy e
  have nb6:∀b,b∉yy us->g6 b=g5 b:=fun b h2=>f6 b fun e=>h2 (inU b (yq.2 (.inr (.inr e))))
  obtain⟨o7,W7,f7⟩:=yE.put W6 hvS (p:=8*i+7) (by simp[hAl,el8]) (.int .i64 (kk+4+(xp (gmE m):Nat)+(xp (gmN m):Nat)+(xp (gmC m):Nat)))
  rw[Ej hAl (by simp[el8])]at W7
  refine⟨_,rfl,nn,by omega,by omega,o7,?_⟩
  generalize zw g6 ((am.getD default).add (8*i+7)) (.int .i64 (kk+4+(xp (gmE m):Nat)+(xp (gmN m):Nat)+(xp (gmC m):Nat)))=g7 at W7 f7 ⊢
  have wi:IntKind.i64.wrap ((i:Int)+1)=((i+1:Nat):Int):=by rw[i64_in _ (by omega)];omega
  have wk:IntKind.i64.wrap (kk+4+(xp (gmE m):Nat)+(xp (gmN m):Nat)+(xp (gmC m):Nat)+1)=k+((y9 (ms.take (i+1)):Nat):Int):=by rw[i64_in _ (by omega)];omega
  rw[wi,wk]
  have F7:∀y,zd (.slice am ms.length cm)≠some y->y∉kQ (.slice a1 (gmE m).length c1,.slice a2 (gmN m).length c2,.slice a3 (gmC m).length c3)->g7 y=h' y:=fun y g1 g2=>by
   rw[f7 y g1,f6 y fun e=>g2 (yq.2 (.inr (.inr e))),f5 y fun e=>g2 (yq.2 (.inr (.inl e))),f4 y fun e=>g2 (yq.2 (.inl e)),F3 y g1]
  have eN:xT k (ms.take (i+1))++ms.drop (i+1)=xT k (ms.take i)++mkM kk m::ms.drop (i+1):=by rw[et,Nm,hkk];simp[xT]
  refine⟨⟨i+1,rfl,by omega,?_,?_,fun b h1 h2=>?_⟩,by simp only[vB,vA,toInt_int];omega⟩
  ·rw[eN,eu,CE hpl,hA]
   show yE 8 g7 _ _ (A++(el8 (mkM kk m) _++yv (ms.drop (i+1)) ub))
   rw[hB]
   exact W7
  ·rw[eN,eu]
   refine(OGs.split hpl).2 ⟨OA.self.keep fun y _ g=>?_,⟨⟨tB.Okeep O1 fun y hy=>f7 y (nvu y (yq.2 (.inl hy))),tB.Okeep O2 fun y hy=>f7 y (nvu y (yq.2 (.inr (.inl hy)))),tB.Okeep O3 fun y hy=>f7 y (nvu y (yq.2 (.inr (.inr hy)))),fun y hy=>?_⟩,OB.self.keep fun y _ g=>?_⟩⟩
   ·have iy:y∈yy us:=by rw[eu,AR];exact List.mem_append_left _ g
    exact⟨F7 y (nv y iy) fun e=>dis y g y (show y∈kQ _++yy ub from List.mem_append_left _ e) rfl,by rw[<-eu];exact iy⟩
   ·rw[<-eu];exact inU y (yq.2 hy)
   ·have iy:y∈yy us:=by rw[eu,AR];exact List.mem_append_right _ (show y∈kQ _++yy ub from List.mem_append_right _ g)
    exact⟨F7 y (nv y iy) fun e=>dis2 y e y g rfl,by rw[<-eu];exact iy⟩
  ·rw[F7 b h1 fun e=>h2 (inU b e),fr b h1 h2]
 ·obtain rfl:i=ms.length:=by omega
  rw[List.take_length,List.drop_length,vK]at *
  exact⟨rfl,W,OG',fr⟩
end
end
section
theorem Xf{x:Int}(H:(Lit.int .u8 x).wf=true):0<=x/\x<=255:=by
 have e1:IntKind.u8.min=0:=by rfl
 have e2:IntKind.u8.max=255:=by rfl
 simp[Lit.wf,e1,e2]at H;exact H
theorem Ko{bs:List Int}:∀ {f:Nat} {r:Rd} {acc:List Int},(txL bs f r acc).2.length<=acc.length+f
 | 0,_,_=>by simp[txL]
 | f+1,r,acc=>by
  unfold txL;split
  ·split
   ·simp only;omega
   ·have:=Ko (bs:=bs) (f:=f) (r:=(tk bs 8 r).1) (acc:=acc++[(tk bs 8 r).2])
    rw[List.length_append,List.length_singleton]at this;omega
  ·simp only;omega
theorem OV{bs:List Int}:∀ {n:Nat} {r:Rd} {acc:List Int},(byL bs n r acc).2.length<=acc.length+n
 | 0,_,_=>by simp[byL]
 | n+1,r,acc=>by
  unfold byL;split
  ·split
   ·have:=OV (bs:=bs) (n:=n) (r:=(tk bs 8 r).1) (acc:=acc++[(tk bs 8 r).2])
    rw[List.length_append,List.length_singleton]at this;omega
   ·simp only;omega
  ·simp only;omega
theorem VK{bs:List Int}(L:bs.length<=65536){told:Nat}{r:Rd}:smM (xK bs told r):=by
 refine⟨?_,?_,?_⟩
 ·show(gEx bs r).2.length<=70000
  unfold gEx;split
  ·have nm:=zQ (bs:=bs) (n:=16) (r:=(gOs bs r).1)
   have e16:(2:Int)^16=65536:=by decide
   rw[e16]at nm
   have:=OV (bs:=bs) (n:=(tk bs 16 (gOs bs r).1).2.toNat) (r:=(tk bs 16 (gOs bs r).1).1) (acc:=[])
   simp only[List.length_nil]at this;omega
  ·simp
 ·show(gNa bs r).2.length<=70000
  unfold gNa;split
  ·have:=Ko (bs:=bs) (f:=bs.length+1) (r:=(gEx bs r).1) (acc:=[])
   simp only[List.length_nil]at this;omega
  ·simp
 ·show(gCo bs r).2.length<=70000
  unfold gCo;split
  ·have:=Ko (bs:=bs) (f:=bs.length+1) (r:=(gNa bs r).1) (acc:=[])
   simp only[List.length_nil]at this;omega
  ·simp
theorem UE{bs:List Int}(L:bs.length<=65536):∀ {f:Nat} {r:Rd} {xs:List Int} {ms:List GM},xs.length<=100000->(∀m∈ms,smM m) ->
  (gZ bs f r xs ms).2.1.length<=100000/\(gZ bs f r xs ms).2.2.length<=ms.length+f/\∀m∈(gZ bs f r xs ms).2.2,smM m
 | 0,_,_,_,h1,h2=>⟨h1,by simp[gZ],h2⟩
 | f+1,r,xs,ms,h1,h2=>by
  unfold gZ;split
  ·have hD:=(JX (bs:=bs) (dl:=0) (room:=100000-xs.length) (sz:=32768) (F:=8*bs.length+1) (f:=8*bs.length+1) (r:=gHd bs r) (al:=[]) (Nat.le_refl _) (by simp)).2
   have hD:(gSt bs xs.length r).2.length<=0+(100000-xs.length):=hD
   obtain⟨g1,g2,g3⟩:=UE L (f:=f) (r:=gC2 bs xs.length r) (xs:=xs++(gSt bs xs.length r).2) (ms:=if(gC2 bs xs.length r).k=0 then ms++[xK bs xs.length r]else ms) (by rw[List.length_append];omega) (by
    split
    ·intro m hm
     rcases List.mem_append.1 hm with hm | hm
     ·exact h2 m hm
     ·rw[List.mem_singleton.1 hm];exact VK L
    ·exact h2)
   refine⟨g1,?_,g3⟩
   split at g2
   ·rename_i hz
    rw[if_pos hz]
    rw[List.length_append,List.length_singleton]at g2;omega
   ·rename_i hz
    rw[if_neg hz];omega
  ·exact⟨h1,by simp,h2⟩
def smG(X:Int×List Int×List GM×Int):Prop:=X.2.1.length<=100000/\X.2.2.1.length<=70000/\∀m∈X.2.2.1,smM m
theorem VL{bs:List Int}:smG (qE bs):=by
 unfold qE
 split
 ·exact⟨by simp,by simp,fun m hm=>by cases hm⟩
 ·rename_i h
  have L:bs.length<=65536:=by omega
  obtain⟨g1,g2,g3⟩:=UE L (f:=bs.length+2) (r:=⟨0,0⟩) (xs:=[]) (ms:=[]) (by simp) (fun m hm=>by cases hm)
  simp only[List.length_nil]at g2
  split <;> exact⟨g1,by show(gZ bs (bs.length+2) ⟨0,0⟩ [] []).2.2.length<=70000;omega,g3⟩
section
variable {S : Shared} {h h0 h' : Eng.Heap} {X : Int × List Int × List GM × Int}
def GR(h:Eng.Heap)(X:Int×List Int×List GM×Int)(a am:Option Addr)(us:List (Value×Value×Value)):Prop:=zp h .u8 a X.2.1/\RMs h am X.2.2.1 us
theorem GR.sub{a am:Option Addr}{us:List (Value×Value×Value)}(H:GR h X a am us)(s:Eng.Sub h h'):GR h' X a am us:=⟨H.1.sub s,H.2.sub s⟩
theorem No(hi:Eng.Inv S h){a am b bm:Option Addr}{c cm d dm:Nat}{us vs:List (Value×Value×Value)}(H:GR h X a am us)(G:GR h X b bm vs)(sm:smG X) :
  zb Tryz.prog S jy #[.agg #[.int .i64 X.1,.slice a X.2.1.length c,.slice am X.2.2.1.length cm,.int .i64 X.2.2.2],.agg #[.int .i64 X.1,.slice b X.2.1.length d,.slice bm X.2.2.1.length dm,.int .i64 X.2.2.2]] h (fun v h'=>v=.bool true/\h'=h):=by
 refine FP (vs:=[.int .i64 X.1,.slice a X.2.1.length c,.slice am X.2.2.1.length cm,.int .i64 X.2.2.2,.int .i64 X.1,.slice b X.2.1.length d,.slice bm X.2.2.1.length dm,.int .i64 X.2.2.2]) ⟨rfl,rfl,rfl,rfl,rfl,rfl,rfl,rfl,trivial⟩ hi ?_
 simp only[Ct,Tr.wp,zA,Ex.ev,coerce,toInt_int,zc,zg,zk,zh,zB,Cst.val,SV.den,zr,zF,zz,zn,zl,zx,vF,vG,vA,vB,vD,vE,vJ,vI,vK,and_true,true_and,if_false,vL]
 refine⟨fun hne=>by simp at hne,fun _=>?_⟩
 refine(Je hi ⟨_,_,rfl,H.1⟩ ⟨_,_,rfl,G.1⟩ (Nat.le_trans sm.1 (by decide))).mono ?_
 rintro _ _ ⟨rfl,rfl⟩
 refine⟨_,rfl,fun hne=>by simp at hne,fun _=>?_⟩
 refine(Uw hi H.2 G.2 sm.2.2 (by have:=sm.2.1;omega)).mono ?_
 rintro _ _ ⟨rfl,rfl⟩
 exact⟨_,rfl,fun hne=>by simp at hne,fun _=>⟨fun hne=>by simp at hne,fun _=>rfl⟩⟩
def Ik(X:Int×List Int×List GM×Int):Nat:=xp X.2.1+y9 X.2.2.1
theorem Kp(sm:smG X):Ik X<=100000000000:=by
 have h1:=Nn sm.2.2
 have h2:=sm.1
 have h3:=sm.2.1
 have e:xp X.2.1=X.2.1.length:=rfl
 unfold Ik
 have:210005*X.2.2.1.length<=210005*70000:=Nat.mul_le_mul_left _ h3
 omega
def GM1(h:Eng.Heap)(X:Int×List Int×List GM×Int)(a am:Option Addr)(c:Nat)(us:List (Value×Value×Value)):Prop:=tB.R h (.slice a X.2.1.length c) (mkB 1 X.2.1)/\RMs h am (xT (1+(xp X.2.1:Nat)) X.2.2.1) us
theorem GM1.sub{a am:Option Addr}{c:Nat}{us:List (Value×Value×Value)}(H:GM1 h X a am c us)(s:Eng.Sub h h'):GM1 h' X a am c us:=⟨tB.Rsub H.1 s,H.2.sub s⟩
theorem Ux(hi:Eng.Inv S h){a am:Option Addr}{c cm:Nat}{us:List (Value×Value×Value)}(P:Part .u8 h (.slice a X.2.1.length c) X.2.1)(Ow:yE 8 h (.slice am X.2.2.1.length cm) X.2.2.1.length (yv X.2.2.1 us))
  (no:∀y∈yy us,zd (.slice a X.2.1.length c)≠some y)(nv:∀y∈yy us,zd (.slice am X.2.2.1.length cm)≠some y)(OG:OGs h (fun y=>y∈yy us) X.2.2.1 us)(vo:∀y,zd (.slice am X.2.2.1.length cm)=some y->zd (.slice a X.2.1.length c)≠some y)(nd:(yy us).Nodup)
  (hb:∀b,(zd (.slice a X.2.1.length c)=some b\/zd (.slice am X.2.2.1.length cm)=some b\/b∈yy us)->¬S b)(sm:smG X) :
  zb Tryz.prog S qo #[.agg #[.int .i64 X.1,.slice a X.2.1.length c,.slice am X.2.2.1.length cm,.int .i64 X.2.2.2],.int .i64 1] h (fun v h'=>v=.int .i64 (1+Ik X)/\GM1 h' X a am c us/\∀b,¬(zd (.slice a X.2.1.length c)=some b\/zd (.slice am X.2.2.1.length cm)=some b\/b∈yy us)->h' b=h b):=by
 refine E1 (vs:=[.int .i64 X.1,.slice a X.2.1.length c,.slice am X.2.2.1.length cm,.int .i64 X.2.2.2,.int .i64 1]) ⟨rfl,rfl,rfl,rfl,rfl,trivial⟩ hi ?_
 simp only[Be,Tr.wp,zA,Ex.ev,coerce,toInt_int,zg,zk,zh,SV.den,zr,zF,zz,zn,zl,zx,vF,vG,vA,vB,vD,vE,vJ,vI,vK,if_false,vL]
 have cl:=Kp sm
 unfold Ik at cl
 refine(DY hi P (fun b h=>hb b (.inl h)) 1 (by omega) (by omega) (Nat.le_trans sm.1 (by decide))).mono ?_
 rintro _ h1 ⟨rfl,O1,f1⟩
 refine⟨_,rfl,?_⟩
 have i1:Eng.Inv S h1:=fun b hs hn=>by
  by_cases g:zd (.slice a X.2.1.length c)=some b
  ·exact hb b (.inl g) hs
  ·rw[f1 b g]at hn;exact hi b hs hn
 refine(Qs i1 (Ow.keep fun y hy=>f1 y (vo y hy)) (OG.keep (N':=fun y=>y∈yy us) fun y _ g=>⟨f1 y (no y g),g⟩) nv nd (fun b h=>hb b (.inr h)) (by omega) (by omega) sm.2.2 (by have:=sm.2.1;omega)).mono ?_
 rintro _ h2 ⟨rfl,W,OG2,f2⟩
 refine⟨_,rfl,?_,⟨?_,?_⟩,fun b hn=>?_⟩
 ·show Value.int .i64 _=_
  congr 1;unfold Ik;push_cast;omega
 ·refine tB.OR (tB.Okeep O1 fun y hy=>f2 y (fun e=>vo y e hy) fun e=>no y e hy)
 ·exact yE.rms W OG2
 ·rw[f2 b (fun e=>hn (.inr (.inl e))) (fun e=>hn (.inr (.inr e))),f1 b fun e=>hn (.inl e)]
theorem Np(hi:Eng.Inv S h){a am:Option Addr}{c cm:Nat}{us:List (Value×Value×Value)}(H:GM1 h X a am c us)(sm:smG X) :
  zb Tryz.prog S jC #[.agg #[.int .i64 X.1,.slice a X.2.1.length c,.slice am X.2.2.1.length cm,.int .i64 X.2.2.2],.int .i64 1] h (fun v h'=>v=.int .i64 (1+Ik X)/\h'=h):=by
 refine E2 (vs:=[.int .i64 X.1,.slice a X.2.1.length c,.slice am X.2.2.1.length cm,.int .i64 X.2.2.2,.int .i64 1]) ⟨rfl,rfl,rfl,rfl,rfl,trivial⟩ hi ?_
 simp only[Bf,Tr.wp,zA,Ex.ev,coerce,toInt_int,zc,zg,zk,zh,zB,Cst.val,SV.den,zr,zF,zz,zn,zl,zx,vF,vG,vA,vB,decide_eq_true_eq,decide_eq_false_iff_not,vD,vE,vJ,vI,vK,if_false,vL]
 have cl:=Kp sm
 unfold Ik at cl ⊢
 refine(GC hi 1 H.1 (by omega) (by omega) (Nat.le_trans sm.1 (by decide))).mono ?_
 rintro _ _ ⟨rfl,rfl⟩
 refine⟨_,rfl,fun hn=>by omega,fun _=>?_⟩
 refine(Qr hi H.2 (by omega) (by omega) sm.2.2 (by have:=sm.2.1;omega)).mono ?_
 rintro _ _ ⟨rfl,rfl⟩
 refine⟨_,rfl,fun hn=>by omega,fun _=>?_⟩
 exact⟨by congr 1;push_cast;omega,rfl⟩
end
section
variable {s : Nat -> Prop} {h : Eng.Heap}
theorem Xg(hi:Eng.Inv (yo Tryz.prog s) h)(ge:ErrS h)(et:E9 h)(a0:Option Addr)(c0:Nat)(xs0:List Int)(hx0:zp h .u8 a0 xs0)(hl0:xs0.length<=maxLen)(hw0:∀x∈xs0,(Lit.int .u8 x).wf=true) :
  zb Tryz.prog (yo Tryz.prog s) AY #[.slice a0 xs0.length c0] h (fun v _=>v=.bool true):=by
 refine E0 (vs:=[.slice a0 xs0.length c0]) ⟨rfl,trivial⟩ hi ?_
 simp only[Bd,Tr.wp,zA,Ex.ev,coerce,toInt_int,zc,zg,zk,zh,zB,Cst.val,SV.den,zr,zF,zz,zn,zl,zx,vF,vG,vA,vB,vC,List.getElem?_cons_succ,decide_eq_true_eq,decide_eq_false_iff_not,vD,vE,vJ,vI,vK,Nat.zero_add,if_false,vL]
 have R0:tB.R h (.slice a0 xs0.length c0) xs0:=⟨_,_,rfl,hx0⟩
 refine⟨fun _=>trivial,fun hsm0=>?_⟩
 have L0:PI xs0:=by show List.length _<=_;omega
 have hwb:okB xs0:=fun x hx=>by have:=Xf (hw0 x hx);omega
 have sm:=VL (bs:=xs0)
 obtain⟨X,eX⟩:∃X,X=qE xs0:=⟨_,rfl⟩
 rw[<-eX]at sm
 have cl:=Kp sm
 refine(L3 hi R0 (BO L0)).mono ?_
 rintro v1 h1 ⟨O1,N1,t1⟩
 obtain⟨b1,e1,rfl⟩:=PK (tB.OR O1)
 refine⟨_,_,_,rfl,?_⟩
 refine(g_spec_Gzip' (hi.sub t1) O1 hwb L0).mono ?_
 rw[<-eX]
 rintro _ h2 ⟨a2,c2,vm2,us2,rfl,P2,_,Ow2,_,OG2,t2⟩
 obtain⟨am2,cm2,rfl⟩:=Ow2.form
 have W2:GR h2 X a2 am2 us2:=⟨by obtain⟨_,_,e,_,g⟩:=P2.ints;cases e;exact g,yE.rms Ow2 OG2⟩
 refine⟨_,_,_,_,_,_,_,_,rfl,?_⟩
 have s2:=t1.trans t2
 refine(L3 (hi.sub s2) (tB.Rsub R0 s2) (BO L0)).mono ?_
 rintro v3 h3 ⟨O3,N3,t3⟩
 obtain⟨b3,e3,rfl⟩:=PK (tB.OR O3)
 refine⟨_,_,_,rfl,?_⟩
 have s3:=s2.trans t3
 refine(Gq (hi.sub s3) (ge.sub s3) (et.sub s3) O3 hwb L0).mono ?_
 rw[<-eX]
 rintro _ h4 ⟨a4,c4,vm4,us4,rfl,P4,N4,Ow4,Nv4,OG4,vo4,nd4,t4⟩
 obtain⟨am4,cm4,rfl⟩:=Ow4.form
 have W4:GR h4 X a4 am4 us4:=⟨by obtain⟨_,_,e,_,g⟩:=P4.ints;cases e;exact g,yE.rms Ow4 OG4⟩
 refine⟨_,_,_,_,_,_,_,_,rfl,?_⟩
 have s4:=s3.trans t4
 refine(No (hi.sub s4) W4 (W2.sub (t3.trans t4)) sm).mono ?_
 rintro _ hq ⟨rfl,eq⟩
 rw[eq]
 refine⟨_,rfl,fun hne=>by simp at hne,fun _=>?_⟩
 refine(L3 (hi.sub s4) (tB.Rsub R0 s4) (BO L0)).mono ?_
 rintro v5 h5 ⟨O5,N5,t5⟩
 obtain⟨b5,e5,rfl⟩:=PK (tB.OR O5)
 refine⟨_,_,_,rfl,?_⟩
 have s5:=s4.trans t5
 have O3':=Ty.SO O3 (t4.trans t5)
 refine(Je (hi.sub s5) (tB.OR O3') (tB.OR O5) (BO L0)).mono ?_
 rintro _ hq ⟨rfl,eq⟩
 rw[eq]
 refine⟨_,rfl,fun hne=>by simp at hne,fun _=>?_⟩
 have hn0:∀ {b:Nat},h b=none->¬(yo Tryz.prog s) b:=fun hb hs=>hi _ hs hb
 refine(DY (hi.sub s5) O3' (fun b hb=>hn0 (zK s2 (N3 b hb))) 1 (by omega) (by omega) (BO L0)).mono ?_
 rintro _ h6 ⟨rfl,_,f6⟩
 have x3:∀y,tB.B (.slice b3 xs0.length e3) y->h3 y≠none:=fun y hy=>tB.Oheld O3 hy
 have s26:Eng.Sub h2 h6:=Sub.other (t3.trans (t4.trans t5)) N3 f6
 have s6:Eng.Sub h h6:=s2.trans s26
 have k46:∀y,h4 y≠none->h3 y=none->h6 y=h4 y:=fun y g1 g2=>by
  rw[f6 y fun e=>x3 y e g2];exact LF t5 g1
 have cb:(xp xs0:Int)=xs0.length:=rfl
 refine⟨_,rfl,fun _=>?_,fun hneg=>by simp at hneg;omega⟩
 have P6:=P4.keep fun y hy=>k46 y (P4.held y hy) (N4 y hy)
 have Ow6:=Ow4.keep fun y hy=>k46 y (Ow4.held y hy) (Nv4 y hy)
 have inN:∀y∈yy us4,h4 y≠none/\h3 y=none/\zd (.slice a4 X.2.1.length c4)≠some y/\zd (.slice am4 X.2.2.1.length cm4)≠some y:=fun y hy=>OG4.mem y hy
 have OG6:OGs h6 (fun y=>y∈yy us4) X.2.2.1 us4:=OG4.self.keep fun y g1 g2=>⟨k46 y g1 (inN y g2).2.1,g2⟩
 have W6:GR h6 X a4 am4 us4:=⟨by obtain⟨_,_,e,_,g⟩:=P6.ints;cases e;exact g,yE.rms Ow6 OG6⟩
 refine(No (hi.sub s6) W6 (W2.sub s26) sm).mono ?_
 rintro _ hq ⟨rfl,eq⟩
 rw[eq]
 refine⟨_,rfl,fun _=>⟨fun hne=>by simp at hne,fun _=>?_⟩⟩
 have bN:∀b,(zd (.slice a4 X.2.1.length c4)=some b\/zd (.slice am4 X.2.2.1.length cm4)=some b\/b∈yy us4)->h3 b=none:=fun b hb=>by
  rcases hb with hb | hb | hb
  ·exact N4 b hb
  ·exact Nv4 b hb
  ·exact(inN b hb).2.1
 refine(Ux (hi.sub s6) P6 Ow6 (fun y hy=>(inN y hy).2.2.1) (fun y hy=>(inN y hy).2.2.2) OG6 vo4 nd4 (fun b hb=>hn0 (zK s3 (bN b hb))) sm).mono ?_
 rintro _ h7 ⟨rfl,M7,f7⟩
 have s27:Eng.Sub h2 h7:=fun y o hy=>by
  rw[f7 y fun hb=>by have:=zK t3 (bN y hb);rw[hy]at this;cases this]
  exact s26 y o hy
 have s7:Eng.Sub h h7:=s2.trans s27
 refine⟨_,rfl,?_⟩
 refine(Np (hi.sub s7) M7 sm).mono ?_
 rintro _ hq ⟨rfl,eq⟩
 rw[eq]
 refine⟨_,rfl,fun hneg=>by omega,fun _=>⟨fun hne=>by simp at hne,fun _=>?_⟩⟩
 refine(L3 (hi.sub s7) (tB.Rsub R0 s7) (BO L0)).mono ?_
 rintro v8 h8 ⟨O8,N8,t8⟩
 obtain⟨b8,e8,rfl⟩:=PK (tB.OR O8)
 refine⟨_,_,_,rfl,?_⟩
 have s8:=s7.trans t8
 refine(Gq (hi.sub s8) (ge.sub s8) (et.sub s8) O8 hwb L0).mono ?_
 rw[<-eX]
 rintro _ h9 ⟨a9,c9,vm9,us9,rfl,P9,N9,Ow9,Nv9,OG9,_,_,t9⟩
 obtain⟨am9,cm9,rfl⟩:=Ow9.form
 have W9:GR h9 X a9 am9 us9:=⟨by obtain⟨_,_,e,_,g⟩:=P9.ints;cases e;exact g,yE.rms Ow9 OG9⟩
 refine⟨_,_,_,_,_,_,_,_,rfl,?_⟩
 have s9:=s8.trans t9
 refine(No (hi.sub s9) W9 (W2.sub (s27.trans (t8.trans t9))) sm).mono ?_
 rintro _ hq ⟨rfl,eq⟩
 rw[eq]
 refine⟨_,rfl,fun hne=>by simp at hne,fun _=>?_⟩
 refine(Np (hi.sub s9) (M7.sub (t8.trans t9)) sm).mono ?_
 rintro _ hq ⟨rfl,eq⟩
 exact⟨_,rfl,fun hneg=>by omega,fun _=>⟨fun hne=>by simp at hne,fun _=>trivial⟩⟩
end
end
end Go.Proofs.YtmnialmphlbmaaaGreatDoor
