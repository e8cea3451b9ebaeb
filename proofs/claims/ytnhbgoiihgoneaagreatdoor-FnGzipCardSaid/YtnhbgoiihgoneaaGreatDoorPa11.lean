import Derived.IntWalk
import Derived.Test.YtnhbgoiihgoneaaGreatDoorPa3
import Derived.Test.YtnhbgoiihgoneaaGreatDoorPa4
import Derived.Test.YtnhbgoiihgoneaaGreatDoorPa5
import Derived.Test.YtnhbgoiihgoneaaGreatDoorPa6
import Derived.Test.YtnhbgoiihgoneaaGreatDoorPa7
import Derived.Test.YtnhbgoiihgoneaaGreatDoorPa8
import Derived.Test.YtnhbgoiihgoneaaGreatDoorPa9
import Derived.Test.YtnhbgoiihgoneaaGreatDoorPa10
set_option maxRecDepth 100000
set_option maxHeartbeats 8000000
set_option linter.unusedVariables false
set_option linter.unusedSimpArgs false
set_option linter.unusedSectionVars false
section
namespace Go.Proofs.YtnhbgoiihgoneaaGreatDoor
open Go Go.Eng Go.IntWalk
section
variable {S : Shared} {h h0 hs h' : Eng.Heap} {bm bF bE bM : Nat}
def MS(h0 h:Eng.Heap)(bm bE bM:Nat)(k:Int)(u:Value)(xs:List Int):Prop:=
 (∃a l c,u=.slice a l c)∧(k=0→Part .u8 h u xs∧∀y,ze u=some y→h0 y=none∧y≠bm∧y≠bE∧y≠bM)
theorem MS.nil{k:Int}:MS h0 h bm bE bM k (.slice none 0 0) []:=⟨⟨_,_,_,rfl⟩,fun _=>⟨Part.nil,fun y hy=>by cases hy⟩⟩
theorem MS.keep{k k':Int}{u:Value}{xs:List Int}(H:MS h0 h bm bE bM k u xs)(hk:k'=0→k=0)(f:∀y,h y≠none→y≠bm→y≠bE→y≠bM→h' y=h y):MS h0 h' bm bE bM k' u xs:=
 ⟨H.1,fun e=>by
  obtain⟨P,N⟩:=H.2 (hk e)
  exact⟨P.keep fun y hy=>f y (P.held y hy) (N y hy).2.1 (N y hy).2.2.1 (N y hy).2.2.2,N⟩⟩
structure HG(h0 hs:Eng.Heap)(bm bF bE bM:Nat):Prop where
 hE:h0 bE=none
 hM:h0 bM=none
 sE:hs bE=none
 sM:hs bM≠none
 n1:bm≠bF
 n2:bm≠bE
 n3:bF≠bE
 n4:bM≠bm
 n5:bM≠bE
 n6:bM≠bF
section
variable {a : Option Addr} {c : Nat} {bs : List Int} {m : MC} {T : TypeId}
structure HS(h0 hs h:Eng.Heap)(bm bF bE bM:Nat)(a:Option Addr)(c:Nat)(bs:List Int)(m:MC)(T:TypeId)(r:Rd)(fl mt xf os:Int)(u4 u5 u6:Value)(x4 x5 x6:List Int):Prop where
 mp:MP h0 h bm a c bs m T r
 hc:HC h bm bF bE r.k
 mc:∃TM,h bM=some (.cells #[.int .i64 fl,.int .i64 mt,.int .i64 xf,.int .i64 os,u4,u5,u6,.int .i64 0] TM)
 s4:MS hs h bm bE bM r.k u4 x4
 s5:MS hs h bm bE bM r.k u5 x5
 s6:MS hs h bm bE bM r.k u6 x6
 fr:∀y,hs y≠none→y≠bm→y≠bM→h y=hs y
variable {r : Rd} {fl mt xf os : Int} {u4 u5 u6 : Value} {x4 x5 x6 : List Int}
theorem HS.sb(H:HS h0 hs h bm bF bE bM a c bs m T r fl mt xf os u4 u5 u6 x4 x5 x6):Eng.Sub h0 h:=by obtain⟨_,_,_,M⟩:=H.mp;exact M.sb
theorem HS.gE(H:HS h0 hs h bm bF bE bM a c bs m T r fl mt xf os u4 u5 u6 x4 x5 x6):zd h ⟨bE,0,none⟩=some (zA r.k):=by obtain⟨T,e⟩:=H.hc.e;simp[zd,e]
theorem HS.gF(H:HS h0 hs h bm bF bE bM a c bs m T r fl mt xf os u4 u5 u6 x4 x5 x6):zd h ⟨bF,0,none⟩=some (.pointer (some ⟨bm,0,none⟩)):=by obtain⟨T,e⟩:=H.hc.f;simp[zd,e]
theorem HS.gM(H:HS h0 hs h bm bF bE bM a c bs m T r fl mt xf os u4 u5 u6 x4 x5 x6):zd h ⟨bM,0,none⟩=some (.int .i64 fl):=by obtain⟨T,e⟩:=H.mc;simp[zd,e]
theorem HS.okE(Q:HG h0 hs bm bF bE bM)(hi:Eng.Inv S h0)(H:HS h0 hs h bm bF bE bM a c bs m T r fl mt xf os u4 u5 u6 x4 x5 x6):yC S h ⟨bE,0,none⟩:=
 ⟨⟨_,H.gE⟩,by obtain⟨T,e⟩:=H.hc.e;simp[yd,e],fun hs=>hi bE hs Q.hE⟩
theorem HS.okM(Q:HG h0 hs bm bF bE bM)(hi:Eng.Inv S h0)(H:HS h0 hs h bm bF bE bM a c bs m T r fl mt xf os u4 u5 u6 x4 x5 x6){i:Nat}(hi8:i<8):yC S h ⟨bM,i,none⟩:=by
 obtain⟨T,e⟩:=H.mc
 refine⟨?_,by simp[yd,e],fun hs=>hi bM hs Q.hM⟩
 simp only[zd,e]
 match i,hi8 with
 | 0,_=>exact⟨_,rfl⟩
 | 1,_=>exact⟨_,rfl⟩
 | 2,_=>exact⟨_,rfl⟩
 | 3,_=>exact⟨_,rfl⟩
 | 4,_=>exact⟨_,rfl⟩
 | 5,_=>exact⟨_,rfl⟩
 | 6,_=>exact⟨_,rfl⟩
 | 7,_=>exact⟨_,rfl⟩
theorem AD(Q:HG h0 hs bm bF bE bM)(hi:Eng.Inv S h0)(G:Errs h0)(hx:zj h0 .u8 a bs)(L:bs.length≤1048576)(H:HS h0 hs h bm bF bE bM a c bs m T r fl mt xf os u4 u5 u6 x4 x5 x6)(n:Nat)(hn:n≤4) :
  zc Tryz.prog S zV #[.int .i64 n,.pointer (some ⟨bE,0,none⟩),.pointer (some ⟨bF,0,none⟩)] h (fun v h'=>v=.int .i64 (tk bs (8*n) r).2∧HS h0 hs h' bm bF bE bM a c bs m T (tk bs (8*n) r).1 fl mt xf os u4 u5 u6 x4 x5 x6):=by
 refine zc.mono (Xh hi G hx L H.mp Q.hE Q.n1 Q.n2 Q.n3 H.hc n hn) ?_
 rintro v h1 ⟨rfl,M,C,f⟩
 obtain⟨TM,e⟩:=H.mc
 exact⟨rfl,M,C,⟨TM,(f bM Q.n4 Q.n5).trans e⟩,H.s4.keep Fa fun y _ h1 h2 _=>f y h1 h2,H.s5.keep Fa fun y _ h1 h2 _=>f y h1 h2,H.s6.keep Fa fun y _ h1 h2 _=>f y h1 h2,
  fun y h1 h2 h3=>(f y h2 (fun e=>h1 (e▸Q.sE))).trans (H.fr y h1 h2 h3)⟩
theorem Hp(Q:HG h0 hs bm bF bE bM)(hi:Eng.Inv S h0)(G:Errs h0)(H:HS h0 hs h bm bF bE bM a c bs m T r fl mt xf os u4 u5 u6 x4 x5 x6)(w:Bool) :
  zc Tryz.prog S yI #[.bool w,.pointer (some ⟨bE,0,none⟩)] h (fun v h'=>v=.tuple #[]∧HS h0 hs h' bm bF bE bM a c bs m T (bd (!w) r) fl mt xf os u4 u5 u6 x4 x5 x6):=by
 refine zc.mono (VE hi G H.mp Q.hE Q.n2 Q.n3 H.hc w) ?_
 rintro v h1 ⟨rfl,M,C,f⟩
 obtain⟨TM,e⟩:=H.mc
 have kk:(bd (!w) r).k=0→r.k=0:=fun h=>(Pn.1 h).1
 exact⟨rfl,M,C,⟨TM,(f bM Q.n5).trans e⟩,H.s4.keep kk fun y _ h1 h2 _=>f y h2,H.s5.keep kk fun y _ h1 h2 _=>f y h2,H.s6.keep kk fun y _ h1 h2 _=>f y h2,
  fun y h1 h2 h3=>(f y (fun e=>h1 (e▸Q.sE))).trans (H.fr y h1 h2 h3)⟩
theorem HS.put(Q:HG h0 hs bm bF bE bM)(H:HS h0 hs h bm bF bE bM a c bs m T r fl mt xf os u4 u5 u6 x4 x5 x6){fl' mt' xf' os':Int}{TM:TypeId}:HS h0 hs (upd h bM (.cells #[.int .i64 fl',.int .i64 mt',.int .i64 xf',.int .i64 os',u4,u5,u6,.int .i64 0] TM)) bm bF bE bM a c bs m T r fl' mt' xf' os' u4 u5 u6 x4 x5 x6:=
 ⟨H.mp.upd' (upd_ne (Ne.symm Q.n4)) (yq H.sb Q.hM),⟨by obtain⟨T,e⟩:=H.hc.f;exact⟨T,(upd_ne (Ne.symm Q.n6)).trans e⟩,by obtain⟨T,e⟩:=H.hc.e;exact⟨T,(upd_ne (Ne.symm Q.n5)).trans e⟩⟩,⟨TM,upd_same⟩,
  H.s4.keep id fun y _ _ _ h3=>upd_ne h3,H.s5.keep id fun y _ _ _ h3=>upd_ne h3,H.s6.keep id fun y _ _ _ h3=>upd_ne h3,fun y h1 h2 h3=>(upd_ne h3).trans (H.fr y h1 h2 h3)⟩
theorem HS.qH(Q:HG h0 hs bm bF bE bM)(H:HS h0 hs h bm bF bE bM a c bs m T r fl mt xf os u4 u5 u6 x4 x5 x6)(x:Int):HS h0 hs (zy h ⟨bM,0,none⟩ (.int .i64 x)) bm bF bE bM a c bs m T r x mt xf os u4 u5 u6 x4 x5 x6:=by
 obtain⟨TM,e⟩:=H.mc;rw[hset_cells' e];exact H.put Q
theorem HS.YB(Q:HG h0 hs bm bF bE bM)(H:HS h0 hs h bm bF bE bM a c bs m T r fl mt xf os u4 u5 u6 x4 x5 x6)(x:Int):HS h0 hs (zy h ⟨bM,1,none⟩ (.int .i64 x)) bm bF bE bM a c bs m T r fl x xf os u4 u5 u6 x4 x5 x6:=by
 obtain⟨TM,e⟩:=H.mc;rw[hset_cells' e];exact H.put Q
theorem HS.YC(Q:HG h0 hs bm bF bE bM)(H:HS h0 hs h bm bF bE bM a c bs m T r fl mt xf os u4 u5 u6 x4 x5 x6)(x:Int):HS h0 hs (zy h ⟨bM,2,none⟩ (.int .i64 x)) bm bF bE bM a c bs m T r fl mt x os u4 u5 u6 x4 x5 x6:=by
 obtain⟨TM,e⟩:=H.mc;rw[hset_cells' e];exact H.put Q
theorem HS.Pp(Q:HG h0 hs bm bF bE bM)(H:HS h0 hs h bm bF bE bM a c bs m T r fl mt xf os u4 u5 u6 x4 x5 x6)(x:Int):HS h0 hs (zy h ⟨bM,3,none⟩ (.int .i64 x)) bm bF bE bM a c bs m T r fl mt xf x u4 u5 u6 x4 x5 x6:=by
 obtain⟨TM,e⟩:=H.mc;rw[hset_cells' e];exact H.put Q
theorem HS.Xj(Q:HG h0 hs bm bF bE bM)(H:HS h0 hs h bm bF bE bM a c bs m T r fl mt xf os u4 u5 u6 x4 x5 x6){K:Int}(hK:K≠0∨K=r.k):HS h0 hs (zy h ⟨bE,0,none⟩ (zA K)) bm bF bE bM a c bs m T ⟨r.i,K⟩ fl mt xf os u4 u5 u6 x4 x5 x6:=by
 have kk:K=0→r.k=0:=fun e=>by rcases hK with h | h;exact absurd e h;exact h▸e
 obtain⟨TE,eE⟩:=H.hc.e
 obtain⟨TF,eF⟩:=H.hc.f
 obtain⟨TM,eM⟩:=H.mc
 rw[Fo eE]
 have M1:=H.mp.upd' (h':=upd h bE (.cells #[zA K] TE)) (upd_ne Q.n2) (yq H.sb Q.hE)
 refine⟨?_,⟨⟨TF,(upd_ne Q.n3).trans eF⟩,⟨TE,upd_same⟩⟩,⟨TM,(upd_ne Q.n5).trans eM⟩,H.s4.keep kk fun y _ _ h2 _=>upd_ne h2,H.s5.keep kk fun y _ _ h2 _=>upd_ne h2,H.s6.keep kk fun y _ _ h2 _=>upd_ne h2,fun y h1 h2 h3=>(upd_ne (fun e=>h1 (by rw[e];exact Q.sE))).trans (H.fr y h1 h2 h3)⟩
 obtain⟨p,g1,g2,g3⟩:=M1
 exact⟨p,g1,fun e=>by have e:K=0:=e;have:=g2 (kk e);rw[this,e],g3⟩
theorem HS.fill(Q:HG h0 hs bm bF bE bM)(H:HS h0 hs h bm bF bE bM a c bs m T r fl mt xf os u4 u5 u6 x4 x5 x6)(hk:r.k=0){X:Rd×List Int}{v:Value}(B:PB h0 h bm a c bs m T X v h') :
  ∃a1 l1 c1,v=.tuple #[.slice a1 l1 c1,zA X.1.k]∧(∀i,i<8→(Eng.Inv S h0→yC S h' ⟨bM,i,none⟩))∧(∀i,i<8→∀v,Eng.Inv S h0→yC S (zy h' ⟨bM,i,none⟩ v) ⟨bE,0,none⟩) ∧
   HS h0 hs (zy (zy h' ⟨bM,4,none⟩ (.slice a1 l1 c1)) ⟨bE,0,none⟩ (zA X.1.k)) bm bF bE bM a c bs m T X.1 fl mt xf os (.slice a1 l1 c1) u5 u6 X.2 x5 x6 ∧
   HS h0 hs (zy (zy h' ⟨bM,5,none⟩ (.slice a1 l1 c1)) ⟨bE,0,none⟩ (zA X.1.k)) bm bF bE bM a c bs m T X.1 fl mt xf os u4 (.slice a1 l1 c1) u6 x4 X.2 x6 ∧
   HS h0 hs (zy (zy h' ⟨bM,6,none⟩ (.slice a1 l1 c1)) ⟨bE,0,none⟩ (zA X.1.k)) bm bF bE bM a c bs m T X.1 fl mt xf os u4 u5 (.slice a1 l1 c1) x4 x5 X.2:=by
 obtain⟨u,⟨a1,l1,c1,rfl⟩,rfl,P,N,M,f,sb⟩:=B
 obtain⟨TE,eE⟩:=H.hc.e
 obtain⟨TF,eF⟩:=H.hc.f
 obtain⟨TM,eM⟩:=H.mc
 have eE':h' bE=some (.cells #[zA r.k] TE):=(f bE (by rw[eE];simp) (Ne.symm Q.n2)).trans eE
 have eF':h' bF=some (.cells #[.pointer (some ⟨bm,0,none⟩)] TF):=(f bF (by rw[eF];simp) (Ne.symm Q.n1)).trans eF
 have eM':=(f bM (by rw[eM];simp) Q.n4).trans eM
 have kk:X.1.k=0→r.k=0:=fun _=>hk
 have gM:∀i,i<8→(Eng.Inv S h0→yC S h' ⟨bM,i,none⟩):=fun i hi8 hi=>by
  refine⟨?_,by simp[yd,eM'],fun hs=>hi bM hs Q.hM⟩
  simp only[zd,eM']
  match i,hi8 with
  | 0,_=>exact⟨_,rfl⟩
  | 1,_=>exact⟨_,rfl⟩
  | 2,_=>exact⟨_,rfl⟩
  | 3,_=>exact⟨_,rfl⟩
  | 4,_=>exact⟨_,rfl⟩
  | 5,_=>exact⟨_,rfl⟩
  | 6,_=>exact⟨_,rfl⟩
  | 7,_=>exact⟨_,rfl⟩
 have gE:∀i,i<8→∀v,Eng.Inv S h0→yC S (zy h' ⟨bM,i,none⟩ v) ⟨bE,0,none⟩:=fun i _ v hi=>by
  rw[hset_cells' eM']
  have e2:upd h' bM (.cells ((#[.int .i64 fl,.int .i64 mt,.int .i64 xf,.int .i64 os,u4,u5,u6,.int .i64 0]:Array Value).setIfInBounds i v) TM) bE=some (.cells #[zA r.k] TE):=(upd_ne (Ne.symm Q.n5)).trans eE'
  have kE:∀g:Eng.Heap,g bE=some (.cells #[zA r.k] TE)→yC S g ⟨bE,0,none⟩:=fun g e=>⟨⟨zA r.k,by simp[zd,e]⟩,by simp[yd,e],fun hs=>hi bE hs Q.hE⟩
  exact kE _ e2
 have new:MS hs h' bm bE bM X.1.k (.slice a1 l1 c1) X.2:=⟨⟨_,_,_,rfl⟩,fun e=>⟨P e,fun y hy=>by
  have n1:=N y hy
  have n2:y≠bm:=fun e=>by subst e;obtain⟨_,_,_,M2⟩:=H.mp;rw[M2.hb]at n1;cases n1
  have n3:y≠bM:=fun e=>by rw[e,eM]at n1;cases n1
  exact⟨(by
   cases e:hs y with
   | none=>rfl
   | some o=>rw[H.fr y (by rw[e];simp) n2 n3,e]at n1;cases n1),(fun e=>by subst e;obtain⟨_,_,_,M2⟩:=H.mp;rw[M2.hb]at n1;cases n1),(fun e=>by rw[e,eE]at n1;cases n1),(fun e=>by rw[e,eM]at n1;cases n1)⟩⟩⟩
 have old:∀ {u:Value} {xs:List Int},MS hs h bm bE bM r.k u xs→MS hs h' bm bE bM X.1.k u xs:=fun H2=>H2.keep kk fun y g1 g2 _ _=>f y g1 g2
 have key:∀(w4 w5 w6:Value) (y4 y5 y6:List Int) (i:Nat) (v:Value),((#[.int .i64 fl,.int .i64 mt,.int .i64 xf,.int .i64 os,u4,u5,u6,.int .i64 0]:Array Value).setIfInBounds i v)=#[.int .i64 fl,.int .i64 mt,.int .i64 xf,.int .i64 os,w4,w5,w6,.int .i64 0] →
   MS hs h' bm bE bM X.1.k w4 y4→MS hs h' bm bE bM X.1.k w5 y5→MS hs h' bm bE bM X.1.k w6 y6 →
   HS h0 hs (zy (zy h' ⟨bM,i,none⟩ v) ⟨bE,0,none⟩ (zA X.1.k)) bm bF bE bM a c bs m T X.1 fl mt xf os w4 w5 w6 y4 y5 y6:=by
  intro w4 w5 w6 y4 y5 y6 i v ev t4 t5 t6
  rw[hset_cells' eM',ev]
  have e2:upd h' bM (.cells #[.int .i64 fl,.int .i64 mt,.int .i64 xf,.int .i64 os,w4,w5,w6,.int .i64 0] TM) bE=some (.cells #[zA r.k] TE):=(upd_ne (Ne.symm Q.n5)).trans eE'
  rw[Fo e2]
  have g:∀y,y≠bE→y≠bM→upd (upd h' bM (.cells #[.int .i64 fl,.int .i64 mt,.int .i64 xf,.int .i64 os,w4,w5,w6,.int .i64 0] TM)) bE (.cells #[zA X.1.k] TE) y=h' y:=fun y g1 g2=>(upd_ne g1).trans (upd_ne g2)
  refine⟨M.upd' (g bm Q.n2 (Ne.symm Q.n4)) (yq (yq sb Q.hM) Q.hE),⟨⟨TF,(g bF Q.n3 (Ne.symm Q.n6)).trans eF'⟩,⟨TE,upd_same⟩⟩,⟨TM,(upd_ne Q.n5).trans upd_same⟩,t4.keep id fun y _ _ g1 g2=>g y g1 g2,t5.keep id fun y _ _ g1 g2=>g y g1 g2,t6.keep id fun y _ _ g1 g2=>g y g1 g2,fun y h1 h2 h3=>?_⟩
  have hb:=H.fr y h1 h2 h3
  exact(g y (fun e=>h1 (e▸Q.sE)) h3).trans ((f y (by rw[hb];exact h1) h2).trans hb)
 exact⟨a1,l1,c1,rfl,gM,gE,key _ _ _ _ _ _ 4 _ rfl new (old H.s5) (old H.s6),key _ _ _ _ _ _ 5 _ rfl (old H.s4) new (old H.s6),key _ _ _ _ _ _ 6 _ rfl (old H.s4) (old H.s5) new⟩
end
end
theorem JC{x:Int}(hx:0≤x∧x<256):((Go.bits .and .i64 x 4 != 0)=decide (x/4%2=1))∧((Go.bits .and .i64 x 8 != 0)=decide (x/8%2=1))∧((Go.bits .and .i64 x 16 != 0)=decide (x/16%2=1))∧((Go.bits .and .i64 x 2 != 0)=decide (x/2%2=1)):=by
 have key:∀n:Fin 256,((Go.bits .and .i64 (n.1:Int) 4 != 0)=decide ((n.1:Int)/4%2=1))∧((Go.bits .and .i64 (n.1:Int) 8 != 0)=decide ((n.1:Int)/8%2=1))∧((Go.bits .and .i64 (n.1:Int) 16 != 0)=decide ((n.1:Int)/16%2=1))∧((Go.bits .and .i64 (n.1:Int) 2 != 0)=decide ((n.1:Int)/2%2=1)):=by decide +kernel
 obtain⟨n,rfl⟩:=Int.eq_ofNat_of_zero_le hx.1
 exact key ⟨n,by omega⟩
theorem Uk{x:Int}(hx:0≤x∧x<4294967296):Go.bits .and .u32 x 65535=x%65536:=by
 obtain⟨n,rfl⟩:=Int.eq_ofNat_of_zero_le hx.1
 have h1:(BitVec.ofInt 32 (n:Int)).toNat=n:=by rw[BitVec.ofInt_natCast,BitVec.toNat_ofNat];exact Nat.mod_eq_of_lt (by omega)
 have h2:(BitVec.ofInt 32 (65535:Int)).toNat=65535:=by decide
 show IntKind.u32.wrap ((BitVec.ofInt 32 (n:Int) &&& BitVec.ofInt 32 (65535:Int)).toNat:Int)=_
 rw[BitVec.toNat_and,h1,h2,show(65535:Nat)=2^16-1 from rfl,Nat.and_two_pow_sub_one_eq_mod,IntKind.wrap_u32]
 omega
end Go.Proofs.YtnhbgoiihgoneaaGreatDoor
end
section
namespace Go.Proofs.YtnhbgoiihgoneaaGreatDoor
open Go Go.Eng Go.IntWalk
def gF5(bs:List Int)(p0 fl:Int)(r:Rd):Rd:=
 if fl/2%2=1∧r.k=0 then bdK 4 ((tk bs 16 r).2 != AB ((bs.take (r.i/8).toNat).drop (p0/8).toNat)%65536) (tk bs 16 r).1 else r
section
variable {s : Nat → Prop} {h h0 hs h' : Eng.Heap} {bm bF bE bM : Nat} {Post : Value → Eng.Heap → Prop}
variable {a : Option Addr} {c : Nat} {bs : List Int} {m : MC} {T : TypeId} {r : Rd} {fl mt xf os : Int} {u4 u5 u6 : Value} {x4 x5 x6 : List Int}
theorem HS.Fg(H:HS h0 hs h bm bF bE bM a c bs m T r fl mt xf os u4 u5 u6 x4 x5 x6)(s:Eng.Sub h h'):HS h0 hs h' bm bF bE bM a c bs m T r fl mt xf os u4 u5 u6 x4 x5 x6:=by
 have f:∀y,h y≠none→h' y=h y:=fun y hy=>by
  cases e:h y with
  | none=>exact absurd e hy
  | some o=>exact s y o e
 obtain⟨p,h1,h2,M⟩:=H.mp
 obtain⟨TE,eE⟩:=H.hc.e
 obtain⟨TF,eF⟩:=H.hc.f
 obtain⟨TM,eM⟩:=H.mc
 exact⟨⟨p,h1,h2,⟨s _ _ M.hb,M.nb,M.sb.trans s⟩⟩,⟨⟨TF,s _ _ eF⟩,⟨TE,s _ _ eE⟩⟩,⟨TM,s _ _ eM⟩,H.s4.keep id fun y h _ _ _=>f y h,H.s5.keep id fun y h _ _ _=>f y h,H.s6.keep id fun y h _ _ _=>f y h,
  fun y h1 h2 h3=>(f y (by rw[H.fr y h1 h2 h3];exact h1)).trans (H.fr y h1 h2 h3)⟩
theorem L9(Q:HG h0 hs bm bF bE bM)(hi:Eng.Inv (zW Tryz.prog s) h0)(H:HS h0 hs h bm bF bE bM a c bs m T r fl mt xf os u4 u5 u6 x4 x5 x6)(hP:∀h',HS h0 hs h' bm bF bE bM a c bs m T r fl mt xf os u4 u5 u6 x4 x5 x6→Post (zA r.k) h')(Ks:List Kt)
  (e0 e1 e2 e4 e5 e6 e7 e8 e9 e10 e11 e12 e13 e14 e15 e16 e17 e18 e19 e20 e21 e22 e23 e24 e25:Value) :
  gd6.wp Tryz.prog (zW Tryz.prog s) yg Post [e0,e1,e2,.pointer (some ⟨bE,0,none⟩),e4,e5,e6,e7,e8,e9,e10,e11,e12,e13,e14,e15,e16,e17,e18,e19,e20,e21,e22,e23,e24,e25] h Ks:=by
 simp only[gd6,Tr.wp,Ex.ev,coerce,zh,SV.den,z9,zp,zO,List.getD_cons_zero,List.getD_cons_succ,List.map_cons,List.map_nil,List.cons_append,List.nil_append,Nat.add_zero,and_true,zm]
 have H2:=H.Xj Q (K:=r.k) (.inr rfl)
 refine⟨zA r.k,za,H.gE,H.okE Q hi,?_⟩
 rw[za]
 refine⟨zA r.k,za,H2.gE,?_⟩
 rw[za]
 exact hP _ H2
theorem XX(Q:HG h0 hs bm bF bE bM)(hi:Eng.Inv (zW Tryz.prog s) h0)(G:ErrS h0)(hx:zj h0 .u8 a bs)(L:bs.length≤65536)(hc:bs.length≤c)(hb:okB bs)(H:HS h0 hs h bm bF bE bM a c bs m T r fl mt xf os u4 u5 u6 x4 x5 x6)(hfl:0≤fl∧fl<256){p0 p:Nat}(hp:p≤8*bs.length)(hpp:r.k=0→r.i=p∧p0≤p)
  (hP:∀h',HS h0 hs h' bm bF bE bM a c bs m T (gF5 bs p0 fl r) fl mt xf os u4 u5 u6 x4 x5 x6→Post (zA (gF5 bs p0 fl r).k) h')
  (e4 e6 e7 e8 e9 e10 e11 e12 e13 e14 e15 e16 e17 e18 e19 e20 e21 e22 e23:Value) :
  gd5.wp Tryz.prog (zW Tryz.prog s) yg Post [.pointer (some ⟨bm,0,none⟩),.pointer (some ⟨bM,0,none⟩),.pointer (some ⟨bF,0,none⟩),.pointer (some ⟨bE,0,none⟩),e4,.int .i64 (p0:Int),e6,e7,e8,e9,e10,e11,e12,e13,e14,e15,e16,e17,e18,e19,e20,e21,e22,e23,.int .i64 (p:Int),.int .i64 fl] h []:=by
 simp only[gd5,Tr.wp,zG,Ex.ev,coerce,toInt_int,zb,zf,zi,zg,zh,zB,zZ,AQ,BY,zI,arith,Cst.val,SV.den,zq,zL,zE,zo,zn,z9,zp,zO,List.flatMap_cons,List.flatMap_nil,List.getD_cons_zero,List.getD_cons_succ,List.getElem?_cons_zero,List.getElem?_cons_succ,decide_eq_true_eq,List.map_cons,List.map_nil,List.cons_append,List.nil_append,List.append_nil,Nat.add_zero,and_true,if_false,Bool.false_eq_true,zm]
 rw[(JC hfl).2.2.2]
 refine⟨fun hz=>?_,fun hz=>?_⟩
 ·have hz:fl/2%2=1:=by simpa using hz
  refine zc.mono (AD Q hi G.el.es hx (by omega) H 2 (by omega)) ?_
  rintro _ h1 ⟨rfl,H1⟩
  refine⟨_,rfl,zA (tk bs (8*2) r).1.k,za,H1.gE,fun hk=>?_,fun hk=>?_⟩
  ·have hk:(tk bs (8*2) r).1.k=0:=by simpa[zt,za]using hk
   have hkr:=Fa hk
   obtain⟨eri,h0p⟩:=hpp hkr
   obtain⟨p1,q1,q2,M1⟩:=id H1.mp
   have wp:IntKind.i64.wrap ((p:Int).tdiv 8)=((p/8:Nat):Int):=by rw[Int.tdiv_eq_ediv_of_nonneg (by omega),i64_in _ (by omega)];omega
   have wp0:IntKind.i64.wrap ((p0:Int).tdiv 8)=((p0/8:Nat):Int):=by rw[Int.tdiv_eq_ediv_of_nonneg (by omega),i64_in _ (by omega)];omega
   refine⟨_,H1.gF,by simp,_,_,_,(ya M1.hb).1,?_⟩
   rw[wp,wp0]
   refine⟨by omega,by omega,by omega,by omega,?_⟩
   obtain⟨a2,e2,hx2⟩:=BP (hx.sub H1.sb) (lo:=p0/8) (hi:=p/8) (m:=c) (by omega) (by omega) (by omega)
   have eh:(bs.drop (p0/8)).take (p/8-p0/8)=(bs.take (r.i/8).toNat).drop ((p0:Int)/8).toNat:=by
    rw[←List.drop_take,eri];congr 2
   rw[Int.toNat_natCast,Int.toNat_natCast,e2]
   have hl:((bs.drop (p0/8)).take (p/8-p0/8)).length=p/8-p0/8:=by rw[List.length_take,List.length_drop];omega
   refine zc.mono (qe (hi.sub H1.sb) 0#32 a2 (c-p0/8) _ (fun x hx=>hb x (List.mem_of_mem_drop (List.mem_of_mem_take hx))) hx2 (by omega) (by omega)) ?_
   rintro _ h2 ⟨rfl,s2⟩
   have H2:=H1.Fg s2
   have hcr:0≤AB ((bs.drop (p0/8)).take (p/8-p0/8))∧AB ((bs.drop (p0/8)).take (p/8-p0/8))<4294967296:=by
    have:=(xT 0#32 ((bs.drop (p0/8)).take (p/8-p0/8))).isLt
    unfold AB;omega
   have ea:IntKind.i64.wrap (Go.bits .and .u32 ((xT 0#32 ((bs.drop (p0/8)).take (p/8-p0/8))).toNat:Int) 65535)=AB ((bs.take (r.i/8).toNat).drop ((p0:Int)/8).toNat)%65536:=by
    have e3:=Uk hcr
    have e4:((xT 0#32 ((bs.drop (p0/8)).take (p/8-p0/8))).toNat:Int)=AB ((bs.drop (p0/8)).take (p/8-p0/8)):=rfl
    rw[e4,e3,i64_in _ (by omega),eh]
   refine⟨_,rfl,fun _=>?_⟩
   rw[ea]
   have eF:gF5 bs p0 fl r=bdK 4 ((tk bs 16 r).2 != AB ((bs.take (r.i/8).toNat).drop ((p0:Int)/8).toNat)%65536) (tk bs 16 r).1:=if_pos ⟨hz,hkr⟩
   refine⟨fun hne=>?_,fun heq=>?_⟩
   ·have eF2:gF5 bs p0 fl r=⟨(tk bs (8*2) r).1.i,4⟩:=by rw[eF];unfold bdK;rw[if_pos ⟨hk,hne⟩]
    rw[eF2]at hP
    refine⟨4,(G.sub H2.sb).e4,H2.okE Q hi,fun _ _=>?_⟩
    exact L9 Q hi (H2.Xj Q (K:=4) (.inl (by decide))) hP _ _ _ _ _ _ _ _ _ _ _ _ _ _ _ _ _ _ _ _ _ _ _ _ _ _
   ·have eF2:gF5 bs p0 fl r=(tk bs (8*2) r).1:=by rw[eF];unfold bdK;rw[if_neg (fun e=>by rw[heq]at e;cases e.2)]
    rw[eF2]at hP
    intro _ _
    exact L9 Q hi H2 hP _ _ _ _ _ _ _ _ _ _ _ _ _ _ _ _ _ _ _ _ _ _ _ _ _ _
  ·have hk:(tk bs (8*2) r).1.k≠0:=by simpa[zt,za]using hk
   have eF2:gF5 bs p0 fl r=(tk bs (8*2) r).1:=by
    unfold gF5
    split
    ·exact if_neg fun e=>hk e.1
    ·rename_i h
     rw[Aa (fun e=>h ⟨hz,e⟩)]
   rw[eF2]at hP
   refine fun _=>⟨fun h=>h.elim,fun _ _ _=>?_⟩
   exact L9 Q hi H1 hP _ _ _ _ _ _ _ _ _ _ _ _ _ _ _ _ _ _ _ _ _ _ _ _ _ _
 ·have hz:¬fl/2%2=1:=by simpa using hz
  have e:gF5 bs p0 fl r=r:=if_neg (fun h=>hz h.1)
  rw[e]at hP
  intro _
  exact L9 Q hi H hP _ _ _ _ _ _ _ _ _ _ _ _ _ _ _ _ _ _ _ _ _ _ _ _ _ _
def gT(bs:List Int)(fl d:Int)(r:Rd):Rd×List Int:=if fl/d%2=1 then txL bs (bs.length+1) r []else(r,[])
theorem JD:∀ {n:Nat} {r:Rd} {acc:List Int},le2 r (txL bs n r acc).1
 | 0,r,acc=>fun h=>⟨h,by unfold txL;simp⟩
 | n+1,r,acc=>by
  unfold txL
  split
  ·split
   ·exact yu
   ·exact yu.trans JD
  ·exact fun h=>⟨h,by simp⟩
theorem MZ:∀ {n:Nat} {r:Rd} {acc:List Int},le2 r (byL bs n r acc).1
 | 0,r,acc=>fun h=>⟨h,by unfold byL;simp⟩
 | n+1,r,acc=>by
  unfold byL
  split
  ·split
   ·exact yu.trans MZ
   ·exact yu
  ·exact fun h=>⟨h,by simp⟩
theorem U5{fl d:Int}:le2 r (gT bs fl d r).1:=by
 unfold gT;split
 ·exact JD
 ·exact fun h=>⟨h,by simp⟩
theorem PK(Q:HG h0 hs bm bF bE bM)(hi:Eng.Inv (zW Tryz.prog s) h0)(G:ErrS h0)(hx:zj h0 .u8 a bs)(L:bs.length≤65536)(hc:bs.length≤c)(hb:okB bs)(H:HS h0 hs h bm bF bE bM a c bs m T r fl mt xf os u4 u5 u6 x4 x5 x6)(hfl:0≤fl∧fl<256){p0:Nat}(hle:r.k=0→(p0:Int)≤r.i)
  (hP:∀h',HS h0 hs h' bm bF bE bM a c bs m T (gF5 bs p0 fl r) fl mt xf os u4 u5 u6 x4 x5 x6→Post (zA (gF5 bs p0 fl r).k) h')
  (e4 e6 e7 e8 e9 e10 e11 e12 e13 e14 e15 e16 e17 e18 e19 e20 e21 e22:Value) :
  gd4.wp Tryz.prog (zW Tryz.prog s) yg Post [.pointer (some ⟨bm,0,none⟩),.pointer (some ⟨bM,0,none⟩),.pointer (some ⟨bF,0,none⟩),.pointer (some ⟨bE,0,none⟩),e4,.int .i64 (p0:Int),e6,e7,e8,e9,e10,e11,e12,e13,e14,e15,e16,e17,e18,e19,e20,e21,e22] h []:=by
 simp only[gd4,Tr.wp,Ex.ev,coerce,zb,zh,zB,zZ,z9,zp,List.getD_cons_zero,List.getD_cons_succ,List.cons_append,List.nil_append,Nat.add_zero,and_true,zm]
 obtain⟨p,q1,q2,M⟩:=id H.mp
 refine⟨_,H.gF,by simp,_,(ya M.hb).2.1,by simp,_,H.gM,?_⟩
 exact XX Q hi G hx L hc hb H hfl q1 (fun hk=>by have e:=q2 hk;have h2:=hle hk;rw[e]at h2 ⊢;simp only at h2 ⊢;exact⟨trivial,by omega⟩) hP _ _ _ _ _ _ _ _ _ _ _ _ _ _ _ _ _ _ _
theorem PN(Q:HG h0 hs bm bF bE bM)(hi:Eng.Inv (zW Tryz.prog s) h0)(G:ErrS h0)(hx:zj h0 .u8 a bs)(L:bs.length≤65536)(hc:bs.length≤c)(hb:okB bs)(H:HS h0 hs h bm bF bE bM a c bs m T r fl mt xf os u4 u5 (.slice none 0 0) x4 x5 [])(hfl:0≤fl∧fl<256){p0:Nat}(hle:r.k=0→(p0:Int)≤r.i)
  (hP:∀u6 h',HS h0 hs h' bm bF bE bM a c bs m T (gF5 bs p0 fl (gT bs fl 16 r).1) fl mt xf os u4 u5 u6 x4 x5 (gT bs fl 16 r).2→Post (zA (gF5 bs p0 fl (gT bs fl 16 r).1).k) h')
  (e4 e6 e7 e8 e9 e10 e11 e12 e13 e14 e15 e16 e17 e18:Value) :
  gd3.wp Tryz.prog (zW Tryz.prog s) yg Post [.pointer (some ⟨bm,0,none⟩),.pointer (some ⟨bM,0,none⟩),.pointer (some ⟨bF,0,none⟩),.pointer (some ⟨bE,0,none⟩),e4,.int .i64 (p0:Int),e6,e7,e8,e9,e10,e11,e12,e13,e14,e15,e16,e17,e18] h []:=by
 simp only[gd3,Tr.wp,zG,Ex.ev,coerce,toInt_int,zb,zf,zi,zg,zh,zB,zZ,zI,arith,Cst.val,SV.den,zq,zL,zE,zo,zn,z9,zp,zO,List.flatMap_cons,List.flatMap_nil,List.getD_cons_zero,List.getD_cons_succ,List.getElem?_cons_zero,List.map_cons,List.map_nil,List.cons_append,List.nil_append,List.append_nil,List.length_cons,List.length_nil,Nat.zero_add,Nat.add_zero,and_true,if_true,if_false,Bool.false_eq_true,zm]
 have hle2:(gT bs fl 16 r).1.k=0→(p0:Int)≤(gT bs fl 16 r).1.i:=fun hk=>by have:=U5 hk;have:=hle this.1;omega
 refine⟨zA r.k,za,H.gE,fun hk=>?_,fun hk=>?_⟩
 ·have hk:r.k=0:=by simpa[zt,za]using hk
  refine⟨by simp,_,H.gM,fun _=>?_⟩
  rw[(JC hfl).2.2.1]
  refine⟨fun hz=>?_,fun hz=>?_⟩
  ·have hz:fl/16%2=1:=by simpa using hz
   have eT:gT bs fl 16 r=txL bs (bs.length+1) r []:=if_pos hz
   rw[eT]at hP hle2
   refine⟨_,H.gF,?_⟩
   refine zc.mono (RO hi G.el.es hx L H.mp hk) ?_
   rintro v h1 B
   obtain⟨a1,l1,c1,rfl,okM,okE,_,_,HH⟩:=H.fill (S:=zW Tryz.prog s) Q hk B
   refine⟨_,_,_,zA (txL bs (bs.length+1) r []).1.k,za,by rw[za],by simp,okM 6 (by decide) hi,okE 6 (by decide) _ hi,fun _=>?_⟩
   simp only[za]
   exact PK Q hi G hx L hc hb HH hfl hle2 (hP _) _ _ _ _ _ _ _ _ _ _ _ _ _ _ _ _ _ _
  ·have hz:¬fl/16%2=1:=by simpa using hz
   have eT:gT bs fl 16 r=(r,[]):=if_neg hz
   rw[eT]at hP hle2
   intro _
   exact PK Q hi G hx L hc hb H hfl hle2 (hP _) _ _ _ _ _ _ _ _ _ _ _ _ _ _ _ _ _ _
 ·have hk:r.k≠0:=by simpa[zt,za]using hk
  have eT:gT bs fl 16 r=(r,[]):=by
   unfold gT;split
   ·exact O7 hk
   ·rfl
  rw[eT]at hP hle2
  refine fun _=>⟨fun h=>h.elim,fun _ _=>?_⟩
  exact PK Q hi G hx L hc hb H hfl hle2 (hP _) _ _ _ _ _ _ _ _ _ _ _ _ _ _ _ _ _ _
theorem PO(Q:HG h0 hs bm bF bE bM)(hi:Eng.Inv (zW Tryz.prog s) h0)(G:ErrS h0)(hx:zj h0 .u8 a bs)(L:bs.length≤65536)(hc:bs.length≤c)(hb:okB bs)(H:HS h0 hs h bm bF bE bM a c bs m T r fl mt xf os u4 (.slice none 0 0) (.slice none 0 0) x4 [] [])(hfl:0≤fl∧fl<256){p0:Nat}(hle:r.k=0→(p0:Int)≤r.i)
  (hP:∀u5 u6 h',HS h0 hs h' bm bF bE bM a c bs m T (gF5 bs p0 fl (gT bs fl 16 (gT bs fl 8 r).1).1) fl mt xf os u4 u5 u6 x4 (gT bs fl 8 r).2 (gT bs fl 16 (gT bs fl 8 r).1).2→Post (zA (gF5 bs p0 fl (gT bs fl 16 (gT bs fl 8 r).1).1).k) h')
  (e4 e6 e7 e8 e9 e10 e11 e12 e13 e14:Value) :
  gd2.wp Tryz.prog (zW Tryz.prog s) yg Post [.pointer (some ⟨bm,0,none⟩),.pointer (some ⟨bM,0,none⟩),.pointer (some ⟨bF,0,none⟩),.pointer (some ⟨bE,0,none⟩),e4,.int .i64 (p0:Int),e6,e7,e8,e9,e10,e11,e12,e13,e14] h []:=by
 simp only[gd2,Tr.wp,zG,Ex.ev,coerce,toInt_int,zb,zf,zi,zg,zh,zB,zZ,zI,arith,Cst.val,SV.den,zq,zL,zE,zo,zn,z9,zp,zO,List.flatMap_cons,List.flatMap_nil,List.getD_cons_zero,List.getD_cons_succ,List.getElem?_cons_zero,List.map_cons,List.map_nil,List.cons_append,List.nil_append,List.append_nil,List.length_cons,List.length_nil,Nat.zero_add,Nat.add_zero,and_true,if_true,if_false,Bool.false_eq_true,zm]
 have hle2:(gT bs fl 8 r).1.k=0→(p0:Int)≤(gT bs fl 8 r).1.i:=fun hk=>by have:=U5 hk;have:=hle this.1;omega
 refine⟨zA r.k,za,H.gE,fun hk=>?_,fun hk=>?_⟩
 ·have hk:r.k=0:=by simpa[zt,za]using hk
  refine⟨by simp,_,H.gM,fun _=>?_⟩
  rw[(JC hfl).2.1]
  refine⟨fun hz=>?_,fun hz=>?_⟩
  ·have hz:fl/8%2=1:=by simpa using hz
   have eT:gT bs fl 8 r=txL bs (bs.length+1) r []:=if_pos hz
   rw[eT]at hP hle2
   refine⟨_,H.gF,?_⟩
   refine zc.mono (RO hi G.el.es hx L H.mp hk) ?_
   rintro v h1 B
   obtain⟨a1,l1,c1,rfl,okM,okE,_,HH,_⟩:=H.fill (S:=zW Tryz.prog s) Q hk B
   refine⟨_,_,_,zA (txL bs (bs.length+1) r []).1.k,za,by rw[za],by simp,okM 5 (by decide) hi,okE 5 (by decide) _ hi,fun _=>?_⟩
   simp only[za]
   exact PN Q hi G hx L hc hb HH hfl hle2 (hP _) _ _ _ _ _ _ _ _ _ _ _ _ _ _
  ·have hz:¬fl/8%2=1:=by simpa using hz
   have eT:gT bs fl 8 r=(r,[]):=if_neg hz
   rw[eT]at hP hle2
   intro _
   exact PN Q hi G hx L hc hb H hfl hle2 (hP _) _ _ _ _ _ _ _ _ _ _ _ _ _ _
 ·have hk:r.k≠0:=by simpa[zt,za]using hk
  have eT:gT bs fl 8 r=(r,[]):=by
   unfold gT;split
   ·exact O7 hk
   ·rfl
  rw[eT]at hP hle2
  refine fun _=>⟨fun h=>h.elim,fun _ _=>?_⟩
  exact PN Q hi G hx L hc hb H hfl hle2 (hP _) _ _ _ _ _ _ _ _ _ _ _ _ _ _
def gE(bs:List Int)(fl:Int)(r:Rd):Rd×List Int:=if fl/4%2=1 then byL bs (tk bs 16 r).2.toNat (tk bs 16 r).1 []else(r,[])
theorem XY{fl:Int}:le2 r (gE bs fl r).1:=by
 unfold gE;split
 ·exact yu.trans MZ
 ·exact fun h=>⟨h,by simp⟩
theorem XZ(Q:HG h0 hs bm bF bE bM)(hi:Eng.Inv (zW Tryz.prog s) h0)(G:ErrS h0)(hx:zj h0 .u8 a bs)(L:bs.length≤65536)(hc:bs.length≤c)(hb:okB bs)(H:HS h0 hs h bm bF bE bM a c bs m T r fl mt xf os (.slice none 0 0) (.slice none 0 0) (.slice none 0 0) [] [] [])(hfl:0≤fl∧fl<256){p0:Nat}(hle:r.k=0→(p0:Int)≤r.i)
  (hP:∀u4 u5 u6 h',HS h0 hs h' bm bF bE bM a c bs m T (gF5 bs p0 fl (gT bs fl 16 (gT bs fl 8 (gE bs fl r).1).1).1) fl mt xf os u4 u5 u6 (gE bs fl r).2 (gT bs fl 8 (gE bs fl r).1).2 (gT bs fl 16 (gT bs fl 8 (gE bs fl r).1).1).2→Post (zA (gF5 bs p0 fl (gT bs fl 16 (gT bs fl 8 (gE bs fl r).1).1).1).k) h')
  (e4 e6 e7 e8 e9 e10 e11 e12 e13:Value) :
  gd1.wp Tryz.prog (zW Tryz.prog s) yg Post [.pointer (some ⟨bm,0,none⟩),.pointer (some ⟨bM,0,none⟩),.pointer (some ⟨bF,0,none⟩),.pointer (some ⟨bE,0,none⟩),e4,.int .i64 (p0:Int),e6,e7,e8,e9,e10,e11,e12,e13,.int .i64 fl] h []:=by
 simp only[gd1,Tr.wp,zG,Ex.ev,coerce,toInt_int,zb,zf,zi,zg,zh,zB,zZ,zI,arith,Cst.val,SV.den,zq,zL,zE,zo,zn,z9,zp,zO,List.flatMap_cons,List.flatMap_nil,List.getD_cons_zero,List.getD_cons_succ,List.getElem?_cons_zero,List.getElem?_cons_succ,List.map_cons,List.map_nil,List.cons_append,List.nil_append,List.append_nil,List.length_cons,List.length_nil,Nat.zero_add,Nat.add_zero,and_true,if_true,if_false,Bool.false_eq_true,zm]
 have hle2:(gE bs fl r).1.k=0→(p0:Int)≤(gE bs fl r).1.i:=fun hk=>by have:=XY hk;have:=hle this.1;omega
 rw[(JC hfl).1]
 refine⟨fun hz=>?_,fun hz=>?_⟩
 ·have hz:fl/4%2=1:=by simpa using hz
  have eT:gE bs fl r=byL bs (tk bs 16 r).2.toNat (tk bs 16 r).1 []:=if_pos hz
  rw[eT]at hP hle2
  refine zc.mono (AD Q hi G.el.es hx (by omega) H 2 (by omega)) ?_
  rintro _ h1 ⟨rfl,H1⟩
  have nm:=yD (bs:=bs) (n:=16) (r:=r)
  have e16:(2:Int)^16=65536:=by decide
  rw[e16]at nm
  obtain⟨n,en⟩:=Int.eq_ofNat_of_zero_le nm.1
  have en2:(tk bs (8*2) r).2=(n:Int):=en
  have eN:(tk bs 16 r).2.toNat=n:=by rw[en];rfl
  rw[eN]at hP hle2
  rw[en2]
  refine⟨_,rfl,zA (tk bs (8*2) r).1.k,za,H1.gE,fun hk=>?_,fun hk=>?_⟩
  ·have hk:(tk bs (8*2) r).1.k=0:=by simpa[zt,za]using hk
   refine⟨_,H1.gF,?_⟩
   refine zc.mono (VG hi G.el.es hx L H1.mp hk n (by omega)) ?_
   rintro v h2 B
   obtain⟨a1,l1,c1,rfl,okM,okE,HH,_,_⟩:=H1.fill (S:=zW Tryz.prog s) Q hk B
   refine⟨_,_,_,zA (byL bs n (tk bs (8*2) r).1 []).1.k,za,by rw[za],by simp,okM 4 (by decide) hi,okE 4 (by decide) _ hi,fun _ _=>?_⟩
   simp only[za]
   exact PO Q hi G hx L hc hb HH hfl hle2 (hP _) _ _ _ _ _ _ _ _ _ _
  ·have hk:(tk bs (8*2) r).1.k≠0:=by simpa[zt,za]using hk
   have eB:byL bs n (tk bs 16 r).1 []=((tk bs 16 r).1,[]):=VF hk
   rw[eB]at hP hle2
   intro _ _
   exact PO Q hi G hx L hc hb H1 hfl hle2 (hP _) _ _ _ _ _ _ _ _ _ _
 ·have hz:¬fl/4%2=1:=by simpa using hz
  have eT:gE bs fl r=(r,[]):=if_neg hz
  rw[eT]at hP hle2
  intro _
  exact PO Q hi G hx L hc hb H hfl hle2 (hP _) _ _ _ _ _ _ _ _ _ _
def PHd(h0 h:Eng.Heap)(bm bM:Nat)(a:Option Addr)(c:Nat)(bs:List Int)(m:MC)(T:TypeId)(r:Rd)(v:Value)(h':Eng.Heap):Prop:=
 v=zA (gHd bs r).k∧∃bF bE u4 u5 u6,HG h0 h bm bF bE bM∧HS h0 h h' bm bF bE bM a c bs m T (gHd bs r) (gFl bs r) (gMt bs r).2 (gXf bs r).2 (gOs bs r).2 u4 u5 u6 (gEx bs r).2 (gNa bs r).2 (gCo bs r).2
theorem Xk(hi:Eng.Inv (zW Tryz.prog s) h0)(G:ErrS h0)(hx:zj h0 .u8 a bs)(L:bs.length≤65536)(hc:bs.length≤c)(hb:okB bs){p0:Nat}(hp0:p0≤8*bs.length)(M:MAt h0 h bm a c bs p0 m T)(hM:h0 bM=none)(ne:bM≠bm){TM:TypeId}
  (cM:h bM=some (.cells #[.int .i64 0,.int .i64 0,.int .i64 0,.int .i64 0,.slice none 0 0,.slice none 0 0,.slice none 0 0,.int .i64 0] TM)) :
  zc Tryz.prog (zW Tryz.prog s) qP #[.pointer (some ⟨bm,0,none⟩),.pointer (some ⟨bM,0,none⟩)] h (PHd h0 h bm bM a c bs m T ⟨p0,0⟩):=by
 refine EV (vs:=[.pointer (some ⟨bm,0,none⟩),.pointer (some ⟨bM,0,none⟩)]) ⟨rfl,rfl,trivial⟩ (hi.sub M.sb) ?_
 simp only[Bt,Tr.wp,zG,Ex.ev,coerce,toInt_int,zb,zh,zB,zZ,zI,Cst.val,SV.den,zq,zL,zE,zo,zn,yo,z9,zp,zO,List.flatMap_cons,List.flatMap_nil,List.replicate_one,List.getD_cons_zero,List.getD_cons_succ,List.map_cons,List.map_nil,List.cons_append,List.nil_append,List.append_nil,Nat.zero_add,Nat.add_zero,and_true,if_true,if_false,Bool.false_eq_true,zm]
 intro bF hbF bE hbE
 have hbm:h bm≠none:=by rw[M.hb];simp
 have hbM:h bM≠none:=by rw[cM];simp
 have nF:bF≠bm:=fun e=>hbm (e▸hbF)
 have nFM:bF≠bM:=fun e=>hbM (e▸hbF)
 have hbE':bE≠bF:=fun e=>by rw[e,upd_same]at hbE;cases hbE
 have hE:h bE=none:=by rw[upd_ne hbE']at hbE;exact hbE
 have nE:bE≠bm:=fun e=>hbm (e▸hE)
 have nEM:bE≠bM:=fun e=>hbM (e▸hE)
 have Q:HG h0 h bm bF bE bM:=⟨zN M.sb hE,hM,hE,hbM,Ne.symm nF,Ne.symm nE,Ne.symm hbE',ne,Ne.symm nEM,Ne.symm nFM⟩
 have s2:Eng.Sub h0 (upd (upd h bF (.cells #[.pointer (some ⟨bm,0,none⟩)] 47)) bE (.cells #[.nilIface] 55)):=yq (yq M.sb (zN M.sb hbF)) (zN M.sb hE)
 have g:∀y,y≠bF→y≠bE→upd (upd h bF (.cells #[.pointer (some ⟨bm,0,none⟩)] 47)) bE (.cells #[.nilIface] 55) y=h y:=fun y h1 h2=>(upd_ne h2).trans (upd_ne h1)
 generalize hh:upd (upd h bF (.cells #[.pointer (some ⟨bm,0,none⟩)] 47)) bE (.cells #[.nilIface] 55)=h1 at s2 g ⊢
 have H0:HS h0 h h1 bm bF bE bM a c bs m T ⟨(p0:Int),0⟩ 0 0 0 0 (.slice none 0 0) (.slice none 0 0) (.slice none 0 0) [] [] []:=
  ⟨⟨p0,hp0,fun _=>rfl,⟨(g bm (Ne.symm nF) (Ne.symm nE)).trans M.hb,M.nb,s2⟩⟩,⟨⟨47,by rw[←hh];exact(upd_ne (Ne.symm hbE')).trans upd_same⟩,⟨55,by rw[←hh];exact upd_same⟩⟩,⟨TM,(g bM (Ne.symm nFM) (Ne.symm nEM)).trans cM⟩,MS.nil,MS.nil,MS.nil,fun y h1 _ _=>g y (fun e=>h1 (e▸hbF)) (fun e=>h1 (e▸hE))⟩
 obtain⟨p,q1,q2,M2⟩:=id H0.mp
 obtain rfl:p0=p:=by have:=q2 rfl;simp only[Rd.mk.injEq,and_true]at this;omega
 refine⟨_,H0.gF,by simp,_,(ya M2.hb).2.1,?_⟩
 refine zc.mono (AD Q hi G.el.es hx (by omega) H0 1 (by decide)) ?_
 rintro _ h2 ⟨rfl,H1⟩
 refine⟨_,rfl,?_⟩
 refine zc.mono (Hp Q hi G.el.es H1 _) ?_
 rintro _ h3 ⟨rfl,H2⟩
 refine⟨rfl,?_⟩
 refine zc.mono (AD Q hi G.el.es hx (by omega) H2 1 (by decide)) ?_
 rintro _ h4 ⟨rfl,H3⟩
 refine⟨_,rfl,?_⟩
 refine zc.mono (Hp Q hi G.el.es H3 _) ?_
 rintro _ h5 ⟨rfl,H4⟩
 refine⟨rfl,?_⟩
 refine zc.mono (AD Q hi G.el.es hx (by omega) H4 1 (by decide)) ?_
 rintro _ h6 ⟨rfl,H5⟩
 refine⟨_,rfl,?_⟩
 refine zc.mono (Hp Q hi G.el.es H5 _) ?_
 rintro _ h7 ⟨rfl,H6⟩
 refine⟨rfl,?_⟩
 refine zc.mono (AD Q hi G.el.es hx (by omega) H6 1 (by decide)) ?_
 rintro _ h8 ⟨rfl,H7⟩
 have H8:=H7.qH Q (tk bs 8 (gh3 bs ⟨(p0:Int),0⟩)).2
 refine⟨_,rfl,by simp,H7.okM Q hi (by decide),by simp,_,H8.gM,?_⟩
 refine zc.mono (Hp Q hi G.el.es H8 _) ?_
 rintro _ h9 ⟨rfl,H9⟩
 refine⟨rfl,?_⟩
 have e4:bd (!decide ((tk bs 8 (gh3 bs ⟨(p0:Int),0⟩)).2<32)) (tk bs 8 (gh3 bs ⟨(p0:Int),0⟩)).1=gh4 bs ⟨(p0:Int),0⟩:=by
  unfold gh4 gFl
  congr 1
  by_cases hx:(tk bs 8 (gh3 bs ⟨(p0:Int),0⟩)).2<32
  ·rw[decide_eq_true hx,decide_eq_false (by omega)];rfl
  ·rw[decide_eq_false hx,decide_eq_true (by omega)];rfl
 have H9:HS h0 h h9 bm bF bE bM a c bs m T (gh4 bs ⟨(p0:Int),0⟩) (gFl bs ⟨(p0:Int),0⟩) 0 0 0 (.slice none 0 0) (.slice none 0 0) (.slice none 0 0) [] [] []:=by rw[←e4];exact H9
 refine zc.mono (AD Q hi G.el.es hx (by omega) H9 4 (by decide)) ?_
 rintro _ h10 ⟨rfl,H10⟩
 refine⟨_,rfl,by simp,H10.okM Q hi (by decide),?_⟩
 have H11:=H10.YB Q (tk bs (8*4) (gh4 bs ⟨(p0:Int),0⟩)).2
 refine zc.mono (AD Q hi G.el.es hx (by omega) H11 1 (by decide)) ?_
 rintro _ h12 ⟨rfl,H12⟩
 refine⟨_,rfl,by simp,H12.okM Q hi (by decide),?_⟩
 have H13:=H12.YC Q (tk bs (8*1) (tk bs (8*4) (gh4 bs ⟨(p0:Int),0⟩)).1).2
 refine zc.mono (AD Q hi G.el.es hx (by omega) H13 1 (by decide)) ?_
 rintro _ h14 ⟨rfl,H14⟩
 refine⟨_,rfl,by simp,H14.okM Q hi (by decide),?_⟩
 have H15:=H14.Pp Q (tk bs (8*1) (tk bs (8*1) (tk bs (8*4) (gh4 bs ⟨(p0:Int),0⟩)).1).1).2
 refine⟨by simp,_,H15.gM,?_⟩
 have hle:(gOs bs ⟨(p0:Int),0⟩).1.k=0→(p0:Int)≤(gOs bs ⟨(p0:Int),0⟩).1.i:=fun hk=>by
  have h1:le2 ⟨(p0:Int),0⟩ (gh1 bs ⟨(p0:Int),0⟩):=yu.trans xO
  have h2:le2 (gh1 bs ⟨(p0:Int),0⟩) (gh2 bs ⟨(p0:Int),0⟩):=yu.trans xO
  have h3:le2 (gh2 bs ⟨(p0:Int),0⟩) (gh3 bs ⟨(p0:Int),0⟩):=yu.trans xO
  have h4:le2 (gh3 bs ⟨(p0:Int),0⟩) (gh4 bs ⟨(p0:Int),0⟩):=yu.trans xO
  have h5:le2 (gh4 bs ⟨(p0:Int),0⟩) (gOs bs ⟨(p0:Int),0⟩).1:=(yu.trans yu).trans yu
  exact((((h1.trans h2).trans h3).trans h4).trans h5 hk).2
 exact XZ (r:=(gOs bs ⟨(p0:Int),0⟩).1) Q hi G hx L hc hb H15 VC hle (fun u4 u5 u6 h' H=>⟨rfl,bF,bE,u4,u5,u6,Q,H⟩) _ _ _ _ _ _ _ _ _
end
end Go.Proofs.YtnhbgoiihgoneaaGreatDoor
end
section
namespace Go.Proofs.YtnhbgoiihgoneaaGreatDoor
open Go Go.Eng Go.IntWalk
section
variable {s : Nat → Prop} {h h0 hs h' : Eng.Heap} {bm bM bw : Nat} {Post : Value → Eng.Heap → Prop}
variable {a : Option Addr} {c : Nat} {bs : List Int} {T TM TW : TypeId} {r : Rd} {xs : List Int} {ao : Option Addr} {co : Nat}
theorem De{b i:Nat}{vs:Array Value}{v:Value}(hb:h b=some (.cells vs T))(hv:vs[i]? = some v):zy h ⟨b,i,none⟩ v=h:=by
 rw[hset_cells' hb]
 have e:vs.setIfInBounds i v=vs:=by
  apply Array.ext_getElem?
  intro j
  rw[Array.getElem?_setIfInBounds]
  split
  ·rename_i e
   subst e
   rw[hv]
   split
   ·rfl
   ·rename_i h;exact absurd (Array.getElem?_eq_some_iff.1 hv).1 h
  ·rfl
 rw[e,kM hb]
structure MO(h0 h:Eng.Heap)(bm:Nat)(a:Option Addr)(c:Nat)(bs:List Int)(T:TypeId)(r:Rd)(xs:List Int)(ao:Option Addr)(co:Nat):Prop where
 mt:∃(p:Nat) (w:Value) (last:Bool) (l d:Value),p≤8*bs.length∧(r.k=0→r=⟨(p:Int),0⟩)∧h bm=some (zQ a c bs p ⟨w,.slice ao xs.length co,100000-(xs.length:Int),last,l,d⟩ T)
 pt:Part .u8 h (.slice ao xs.length co) xs
 nw:∀y,ze (.slice ao xs.length co)=some y→h0 y=none∧y≠bm
 sb:Eng.Sub h0 h
 le:xs.length≤100000
theorem MO.err{r':Rd}(H:MO h0 h bm a c bs T r xs ao co)(hk:r'.k≠0):MO h0 h bm a c bs T r' xs ao co:=by
 obtain⟨p,w,last,l,d,h1,h2,h3⟩:=H.mt
 exact⟨⟨p,w,last,l,d,h1,fun e=>absurd e hk,h3⟩,H.pt,H.nw,H.sb,H.le⟩
def PU(h h':Eng.Heap)(bm:Nat)(w u:Value)(x:List Int):Prop:=Part .u8 h' u x∧∀y,ze u=some y→h y=none∧y≠bm∧ze w≠some y
def PM(h0 h:Eng.Heap)(bm:Nat)(a:Option Addr)(c:Nat)(bs:List Int)(T:TypeId)(r:Rd)(xs:List Int)(ao:Option Addr)(co:Nat)(v:Value)(h':Eng.Heap):Prop:=
 ∃(fl mt xf os:Int) (u4 u5 u6:Value) (sz:Int) (ao':Option Addr) (co':Nat),v=.tuple #[.agg #[.int .i64 fl,.int .i64 mt,.int .i64 xf,.int .i64 os,u4,u5,u6,.int .i64 sz],zA (gC2 bs xs.length r).k] ∧
  MO h0 h' bm a c bs T (gC2 bs xs.length r) (xs++(gSt bs xs.length r).2) ao' co'∧(∀y,h y≠none→y≠bm→ze (.slice ao xs.length co)≠some y→h' y=h y) ∧
  (∀y,ze (.slice ao' (xs++(gSt bs xs.length r).2).length co')=some y→h y=none∨ze (.slice ao xs.length co)=some y) ∧
  (∃a4 l4 c4 a5 l5 c5 a6 l6 c6,u4=.slice a4 l4 c4∧u5=.slice a5 l5 c5∧u6=.slice a6 l6 c6) ∧
  ((gC2 bs xs.length r).k=0→fl=gFl bs r∧mt=(gMt bs r).2∧xf=(gXf bs r).2∧os=(gOs bs r).2∧sz=((gSt bs xs.length r).2.length:Int) ∧
   PU h h' bm (.slice ao' (xs++(gSt bs xs.length r).2).length co') u4 (gEx bs r).2∧PU h h' bm (.slice ao' (xs++(gSt bs xs.length r).2).length co') u5 (gNa bs r).2∧PU h h' bm (.slice ao' (xs++(gSt bs xs.length r).2).length co') u6 (gCo bs r).2)
structure MX(h0 h hB:Eng.Heap)(bm bM:Nat)(bs xs:List Int)(ao:Option Addr)(co:Nat)(TM:TypeId)(fl mt xf os:Int)(u4 u5 u6:Value)(x4 x5 x6:List Int):Prop where
 sB:Eng.Sub h0 hB
 nB:hB bm=none
 nM:h bM=none
 n0:h0 bM=none
 ne:bM≠bm
 fB:∀y,h y≠none→y≠bm→ze (.slice ao xs.length co)≠some y→hB y=h y
 cM:hB bM=some (.cells #[.int .i64 fl,.int .i64 mt,.int .i64 xf,.int .i64 os,u4,u5,u6,.int .i64 0] TM)
 p4:Part .u8 hB u4 x4∧∀y,ze u4=some y→h y=none∧y≠bm∧y≠bM
 p5:Part .u8 hB u5 x5∧∀y,ze u5=some y→h y=none∧y≠bm∧y≠bM
 p6:Part .u8 hB u6 x6∧∀y,ze u6=some y→h y=none∧y≠bm∧y≠bM
 f4:∃a4 l4 c4 a5 l5 c5 a6 l6 c6,u4=.slice a4 l4 c4∧u5=.slice a5 l5 c5∧u6=.slice a6 l6 c6
 le:xs.length≤100000
abbrev kcG(a:Option Addr)(c:Nat)(bs xs:List Int)(T TW:TypeId)(bm bw:Nat):KC:=⟨a,c,bs,0,100000-xs.length,32768,T,TW,bm,bw,xs⟩
section
variable {hB hb : Eng.Heap} {fl mt xf os : Int} {u4 u5 u6 : Value} {x4 x5 x6 : List Int} {r2 : Rd} {al : List Int} {last : Bool} {l d : Value}
theorem IM.mo(X:MX h0 h hB bm bM bs xs ao co TM fl mt xf os u4 u5 u6 x4 x5 x6)(s1:Eng.Sub hB hb)(I:IM hb h' (kcG a c bs xs T TW bm bw) r2 al last l d) :
  ∃ao' co',MO h0 h' bm a c bs T r2 (xs++al) ao' co'∧(∀y,ze (.slice ao' (xs++al).length co')=some y→hB y=none)∧(∀y,ze (.slice ao' (xs++al).length co')=some y→h y=none∨ze (.slice ao xs.length co)=some y):=by
 obtain⟨p,ao',co',hp,hr,hm,P,N⟩:=I.mt
 have eo:(kcG a c bs xs T TW bm bw).otl al=xs++al:=by simp[KC.otl]
 rw[eo]at hm P N
 have out:∀y,ze (.slice ao' (xs++al).length co')=some y→y≠bm∧hB y=none:=fun y hy=>⟨(IM.x8 N hy).1,zN s1 (IM.x8 N hy).2.2⟩
 have hle:=I.le
 simp only[Nat.zero_add]at hle
 refine⟨ao',co',⟨⟨p,.pointer (some ⟨bw,0,none⟩),last,l,d,hp,fun hk=>PF (hr hk) hk,?_⟩,P,fun y hy=>⟨zN X.sB (out y hy).2,(out y hy).1⟩,X.sB.trans (s1.trans I.sb),by rw[List.length_append];have:=X.le;omega⟩,fun y hy=>(out y hy).2,fun y hy=>?_⟩
 ·have er:((100000-xs.length:Nat):Int)-((al.length-0:Nat):Int)=100000-((xs++al).length:Int):=by rw[List.length_append];have:=X.le;omega
  rw[hm,←er];rfl
 ·by_cases h1:h y=none
  ·exact .inl h1
  ·by_cases h2:ze (.slice ao xs.length co)=some y
   ·exact .inr h2
   ·have:=X.fB y h1 (out y hy).1 h2
    rw[(out y hy).2]at this
    exact absurd this.symm h1
theorem ld8{b:Nat}{v0 v1 v2 v3 v4 v5 v6 v7:Value}(hb:h b=some (.cells #[v0,v1,v2,v3,v4,v5,v6,v7] T)):zd h ⟨b,0,none⟩=some v0∧zd h ⟨b,1,none⟩=some v1∧zd h ⟨b,1+1,none⟩=some v2∧zd h ⟨b,1+1+1,none⟩=some v3∧zd h ⟨b,1+1+1+1,none⟩=some v4∧zd h ⟨b,1+1+1+1+1,none⟩=some v5∧zd h ⟨b,1+1+1+1+1+1,none⟩=some v6∧zd h ⟨b,1+1+1+1+1+1+1,none⟩=some v7:=by
 simp[zd,hb]
theorem PM.bad(X:MX h0 h hB bm bM bs xs ao co TM fl mt xf os u4 u5 u6 x4 x5 x6)(s1:Eng.Sub hB hb)(I:IM hb h' (kcG a c bs xs T TW bm bw) r2 al last l d)(eS:(gSt bs xs.length r).2=al){K:Int}(hK:K≠0)(eC:(gC2 bs xs.length r).k=K) :
  PM h0 h bm a c bs T r xs ao co (.tuple #[.agg #[.int .i64 fl,.int .i64 mt,.int .i64 xf,.int .i64 os,u4,u5,u6,.int .i64 0],zA K]) h':=by
 obtain⟨ao',co',M,oB,oh⟩:=IM.mo X s1 I
 have sb:Eng.Sub hB h':=s1.trans I.sb
 rw[←eC]at hK
 refine⟨fl,mt,xf,os,u4,u5,u6,0,ao',co',by rw[eC],by rw[eS];exact M.err hK,fun y g1 g2 g3=>?_,by rw[eS];exact oh,X.f4,fun e=>absurd e hK⟩
 have e:=X.fB y g1 g2 g3
 cases ho:h y with
 | none=>exact absurd ho g1
 | some o=>exact sb y o (e.trans ho)
theorem MX.cM'(X:MX h0 h hB bm bM bs xs ao co TM fl mt xf os u4 u5 u6 x4 x5 x6)(sb:Eng.Sub hB h'):h' bM=some (.cells #[.int .i64 fl,.int .i64 mt,.int .i64 xf,.int .i64 os,u4,u5,u6,.int .i64 0] TM):=sb _ _ X.cM
theorem PM.BI(X:MX h0 h hB bm bM bs xs ao co TM (gFl bs r) (gMt bs r).2 (gXf bs r).2 (gOs bs r).2 u4 u5 u6 (gEx bs r).2 (gNa bs r).2 (gCo bs r).2)(s1:Eng.Sub hB hb)(I:IM hb h' (kcG a c bs xs T TW bm bw) r2 al last l d)(eS:(gSt bs xs.length r).2=al)(eC:gC2 bs xs.length r=r2)(hk:r2.k=0) :
  PM h0 h bm a c bs T r xs ao co (.tuple #[.agg #[.int .i64 (gFl bs r),.int .i64 (gMt bs r).2,.int .i64 (gXf bs r).2,.int .i64 (gOs bs r).2,u4,u5,u6,.int .i64 (al.length:Int)],.nilIface]) (upd h' bM (.cells #[.int .i64 (gFl bs r),.int .i64 (gMt bs r).2,.int .i64 (gXf bs r).2,.int .i64 (gOs bs r).2,u4,u5,u6,.int .i64 (al.length:Int)] TM)):=by
 obtain⟨ao',co',M,oB,oh⟩:=IM.mo X s1 I
 have sb:Eng.Sub hB h':=s1.trans I.sb
 have oM:∀y,ze (.slice ao' (xs++al).length co')=some y→y≠bM:=fun y hy e=>by have:=oB y hy;rw[e,X.cM]at this;cases this
 have pu:∀ {u:Value} {x:List Int},(Part .u8 hB u x∧∀y,ze u=some y→h y=none∧y≠bm∧y≠bM)→PU h (upd h' bM (.cells #[.int .i64 (gFl bs r),.int .i64 (gMt bs r).2,.int .i64 (gXf bs r).2,.int .i64 (gOs bs r).2,u4,u5,u6,.int .i64 (al.length:Int)] TM)) bm (.slice ao' (xs++al).length co') u x:=fun H=>by
  refine⟨(H.1.sub sb).keep fun y hy=>upd_ne (H.2 y hy).2.2,fun y hy=>⟨(H.2 y hy).1,(H.2 y hy).2.1,fun e=>?_⟩⟩
  exact H.1.held y hy (oB y e)
 obtain⟨p,w,last',l',d',q1,q2,q3⟩:=M.mt
 refine⟨_,_,_,_,u4,u5,u6,(al.length:Int),ao',co',?_,?_,fun y g1 g2 g3=>?_,by rw[eS];exact oh,X.f4,fun _=>⟨rfl,rfl,rfl,rfl,by rw[eS],?_⟩⟩
 ·rw[eC,hk];rfl
 ·rw[eC,eS]
  exact⟨⟨p,w,last',l',d',q1,q2,(upd_ne (Ne.symm X.ne)).trans q3⟩,M.pt.keep fun y hy=>upd_ne (oM y hy),M.nw,yq M.sb X.n0,M.le⟩
 ·rw[upd_ne (fun e=>g1 (by rw[e];exact X.nM))]
  have e:=X.fB y g1 g2 g3
  cases ho:h y with
  | none=>exact absurd ho g1
  | some o=>exact sb y o (e.trans ho)
 ·rw[eS];exact⟨pu X.p4,pu X.p5,pu X.p6⟩
theorem Ya(hi:Eng.Inv (zW Tryz.prog s) h0)(hiB:Eng.Inv (zW Tryz.prog s) hB)(G:ErrS h0)(hx:zj h0 .u8 a bs)(L:bs.length≤65536)(X:MX h0 h hB bm bM bs xs ao co TM (gFl bs r) (gMt bs r).2 (gXf bs r).2 (gOs bs r).2 u4 u5 u6 (gEx bs r).2 (gNa bs r).2 (gCo bs r).2)(s1:Eng.Sub hB hb)(I:IM hb h' (kcG a c bs xs T TW bm bw) r2 al last l d)(hk:r2.k=0)
  (eS:(gSt bs xs.length r).2=al)(eC:gC1 bs xs.length r=r2){a6:Option Addr}{c6:Nat}(hc6:(xs++al).length≤c6)(Ks:List Kt)(e2 e3 e5 e7 e8 e9:Value) :
  gm4.wp Tryz.prog (zW Tryz.prog s) yg (PM h0 h bm a c bs T r xs ao co) [.pointer (some ⟨bm,0,none⟩),.pointer (some ⟨bM,0,none⟩),e2,e3,.slice ao xs.length co,e5,.slice a6 (xs++al).length c6,e7,e8,e9] h' Ks:=by
 obtain⟨a4,l4,c4,a5,l5,c5,a7,l7,c7,rfl,rfl,rfl⟩:=X.f4
 simp only[gm4,Tr.wp,zG,Ex.ev,coerce,toInt_int,zb,zf,zi,zg,zh,zB,zZ,AQ,BY,zI,Cst.val,SV.den,zq,zL,zE,zo,zn,z9,zp,zO,List.flatMap_cons,List.flatMap_nil,List.getD_cons_zero,List.getD_cons_succ,List.map_cons,List.map_nil,List.cons_append,List.nil_append,List.append_nil,List.length_cons,List.length_nil,Nat.zero_add,Nat.add_zero,and_true,if_true,if_false,Bool.false_eq_true,zm]
 have hib:=hiB.sub s1
 have eT:gT2 bs xs.length r=tk bs 32 r2:=by unfold gT2;rw[eC]
 have eC2:gC2 bs xs.length r=bdK 4 ((tk bs 32 r2).2 != (al.length:Int)) (tk bs 32 r2).1:=by unfold gC2;rw[eT,eS]
 refine⟨by simp,?_⟩
 refine zc.mono (B5 (k:=kcG a c bs xs T TW bm bw) hib (G.el.es.sub (X.sB.trans s1)) (hx.sub (X.sB.trans s1)) (by show bs.length≤1048576;omega) I hk 32 (by decide)) ?_
 rintro _ h3 ⟨rfl,I3⟩
 have sb3:=s1.trans I3.sb
 refine⟨(tk bs 32 r2).2,zA (tk bs 32 r2).1.k,za,by rw[za],fun hz=>?_,fun hz=>?_⟩
 ·have hz:(tk bs 32 r2).1.k≠0:=by simpa[zt,za]using hz
  refine⟨_,_,_,_,_,_,_,_,_,_,_,_,_,_,ld8 (X.cM' sb3),?_⟩
  rw[za]
  exact PM.bad X s1 I3 eS hz (by rw[eC2];unfold bdK;rw[if_neg (fun e=>hz e.1)])
 ·have hz:(tk bs 32 r2).1.k=0:=by simpa[zt,za]using hz
  have el:((slL (jF 1 a6 ((xs.length:Int)).toNat (xs++al).length c6):Nat):Int)=(al.length:Int):=by
   have:slL (jF 1 a6 ((xs.length:Int)).toNat (xs++al).length c6)=(xs++al).length-((xs.length:Int)).toNat:=by
    unfold jF;split <;> rfl
   rw[this,List.length_append];omega
  rw[el]
  refine⟨fun hne=>?_,fun heq=>?_⟩
  ·refine⟨_,_,_,_,_,_,_,_,_,_,_,_,_,_,ld8 (X.cM' sb3),4,(G.sub (X.sB.trans sb3)).e4,?_⟩
   exact PM.bad (K:=4) X s1 I3 eS (by decide) (by rw[eC2];unfold bdK;rw[if_pos ⟨hz,hne⟩])
  ·have h6:=X.cM' sb3
   have heq:(tk bs 32 r2).2=(al.length:Int):=by simpa using heq
   rw[heq]
   refine⟨⟨⟨_,(ld8 h6).2.2.2.2.2.2.2⟩,by simp[yd,h6],fun hs=>hi bM hs X.n0⟩,?_⟩
   rw[hset_cells' h6]
   refine⟨_,_,_,_,_,_,_,_,_,_,_,_,_,_,ld8 upd_same,?_⟩
   exact PM.BI X s1 I3 eS (by rw[eC2,heq];unfold bdK;rw[if_neg (by simp)]) hz
theorem IM.Fg{k:KC}{h3:Eng.Heap}(I:IM hb h' k r2 al last l d)(s:Eng.Sub h' h3):IM hb h3 k r2 al last l d:=by
 obtain⟨p,ao,co,h1,h2,h4,P,N⟩:=I.mt
 obtain⟨dd,at_,n,g1,g2,g3,g4⟩:=I.rg
 exact⟨⟨p,ao,co,h1,h2,s _ _ h4,P.sub s,N⟩,⟨dd,at_,n,s _ _ g1,g2,g3.trans s,g4⟩,I.nm,I.ne,I.sb.trans s,I.le⟩
theorem Yb(hi:Eng.Inv (zW Tryz.prog s) h0)(hiB:Eng.Inv (zW Tryz.prog s) hB)(G:ErrS h0)(hx:zj h0 .u8 a bs)(L:bs.length≤65536)(X:MX h0 h hB bm bM bs xs ao co TM (gFl bs r) (gMt bs r).2 (gXf bs r).2 (gOs bs r).2 u4 u5 u6 (gEx bs r).2 (gNa bs r).2 (gCo bs r).2)(s1:Eng.Sub hB hb)(I:IM hb h' (kcG a c bs xs T TW bm bw) r2 al last l d)(hk:r2.k=0)
  (eS:(gSt bs xs.length r).2=al)(eA:alg (gSt bs xs.length r).1=r2)(hal:okB al)(Ks:List Kt)(e2 e3 e5:Value) :
  gm3.wp Tryz.prog (zW Tryz.prog s) yg (PM h0 h bm a c bs T r xs ao co) [.pointer (some ⟨bm,0,none⟩),.pointer (some ⟨bM,0,none⟩),e2,e3,.slice ao xs.length co,e5] h' Ks:=by
 obtain⟨a4,l4,c4,a5,l5,c5,a7,l7,c7,rfl,rfl,rfl⟩:=X.f4
 simp only[gm3,Tr.wp,zG,Ex.ev,coerce,toInt_int,zb,zf,zi,zg,zh,zB,zZ,AQ,BY,zI,Cst.val,SV.den,zq,zL,zE,zo,zn,z9,zp,List.flatMap_cons,List.flatMap_nil,List.getD_cons_zero,List.getD_cons_succ,decide_eq_true_eq,List.map_cons,List.map_nil,List.cons_append,List.nil_append,List.append_nil,List.length_cons,List.length_nil,Nat.zero_add,Nat.add_zero,and_true,if_true,if_false,Bool.false_eq_true,zm]
 have hib:=hiB.sub s1
 obtain⟨p,a6,c6,hp,hr,hm,P,N⟩:=id I.mt
 have eo:(kcG a c bs xs T TW bm bw).otl al=xs++al:=by simp[KC.otl]
 have P':=P
 rw[eo]at P'
 have hm':h' bm=some (zQ a c bs p (xd (kcG a c bs xs T TW bm bw) al (.slice a6 (xs++al).length c6) last l d) T):=by rw[←eo];exact hm
 obtain⟨_,_,e6,hc6,_⟩:=P'.ints
 cases e6
 have er2:r2=⟨(p:Int),0⟩:=PF (hr hk) hk
 have eT:gT1 bs xs.length r=tk bs 32 r2:=by unfold gT1;rw[eA]
 have eC1:gC1 bs xs.length r=bdK 4 ((tk bs 32 r2).2 != AB al) (tk bs 32 r2).1:=by unfold gC1;rw[eT,eS]
 have hle:=I.le
 simp only[Nat.zero_add]at hle
 have hlx:=X.le
 refine⟨by simp,_,_,_,(ya hm').2.2.2.1,by omega,by rw[List.length_append];omega,by simp,?_⟩
 have M:MAt hb h' bm a c bs p (xd (kcG a c bs xs T TW bm bw) al (.slice a6 (xs++al).length c6) last l d) T:=⟨hm',I.nm,I.sb⟩
 refine zc.mono (Fb hib (G.el.es.sub (X.sB.trans s1)) (hx.sub (X.sB.trans s1)) (by omega) p hp 32 (by decide) M) ?_
 rintro _ h3 ⟨rfl,rfl⟩
 rw[←er2]
 obtain⟨q,hq,eq⟩:=MQ (bs:=bs) (n:=32) hp
 rw[←er2]at eq
 have I3:=IM.Kg I (r':=(tk bs 32 r2).1) (last':=last) (l':=l) (d':=d) hq (fun _=>eq) P N
 rw[eo]at I3
 have I3:IM hb (upd h' bm (zQ a c bs (tk bs 32 r2).1.i (xd (kcG a c bs xs T TW bm bw) al (.slice a6 (xs++al).length c6) last l d) T)) (kcG a c bs xs T TW bm bw) (tk bs 32 r2).1 al last l d:=by rw[eq];exact I3
 have P3:Part .u8 (upd h' bm (zQ a c bs (tk bs 32 r2).1.i (xd (kcG a c bs xs T TW bm bw) al (.slice a6 (xs++al).length c6) last l d) T)) (.slice a6 (xs++al).length c6) (xs++al):=P'.keep fun y hy=>upd_ne (by rw[eo]at N;exact(IM.x8 N hy).1)
 generalize upd h' bm (zQ a c bs (tk bs 32 r2).1.i (xd (kcG a c bs xs T TW bm bw) al (.slice a6 (xs++al).length c6) last l d) T)=h3 at I3 P3 ⊢
 have sb3:=s1.trans I3.sb
 refine⟨(tk bs 32 r2).2,zA (tk bs 32 r2).1.k,za,by rw[za],fun hz=>?_,fun hz=>?_⟩
 ·have hz:(tk bs 32 r2).1.k≠0:=by simpa[zt,za]using hz
  refine⟨_,_,_,_,_,_,_,_,_,_,_,_,_,_,ld8 (X.cM' sb3),?_⟩
  rw[za]
  have eC:gC1 bs xs.length r=(tk bs 32 r2).1:=by rw[eC1];unfold bdK;rw[if_neg (fun e=>hz e.1)]
  refine PM.bad X s1 I3 eS hz ?_
  have e2:gT2 bs xs.length r=((tk bs 32 r2).1,0):=by unfold gT2;rw[eC,Aa hz]
  unfold gC2;rw[e2];unfold bdK;rw[if_neg (fun e=>hz e.1)]
 ·have hz:(tk bs 32 r2).1.k=0:=by simpa[zt,za]using hz
  obtain⟨_,_,e7,_,hx6⟩:=P3.ints
  cases e7
  obtain⟨a8,e8,hx8⟩:=BP hx6 (lo:=xs.length) (hi:=(xs++al).length) (m:=c6) (by rw[List.length_append];omega) (Nat.le_refl _) hc6
  have ed:((xs++al).drop xs.length).take ((xs++al).length-xs.length)=al:=by
   rw[List.drop_left,List.take_of_length_le (by rw[List.length_append];omega)]
  rw[ed]at e8 hx8
  rw[Int.toNat_natCast,e8]
  refine zc.mono (qe (hiB.sub sb3) 0#32 a8 (c6-xs.length) al hal hx8 (by rw[List.length_append]at hc6;omega) (by omega)) ?_
  rintro _ h4 ⟨rfl,s4⟩
  have I4:=IM.Fg I3 s4
  have sb4:=s1.trans I4.sb
  have nm:=yD (bs:=bs) (n:=32) (r:=r2)
  have e32:(2:Int)^32=4294967296:=by decide
  rw[e32]at nm
  have wu:IntKind.u32.wrap (tk bs 32 r2).2=(tk bs 32 r2).2:=by rw[IntKind.wrap_u32];omega
  rw[wu]
  refine⟨_,rfl,fun hne=>?_,fun heq=>?_⟩
  ·refine⟨_,_,_,_,_,_,_,_,_,_,_,_,_,_,ld8 (X.cM' sb4),4,(G.sub (X.sB.trans sb4)).e4,?_⟩
   have eC:gC1 bs xs.length r=⟨(tk bs 32 r2).1.i,4⟩:=by rw[eC1];unfold bdK;rw[if_pos ⟨hz,hne⟩]
   refine PM.bad (K:=4) X s1 I4 eS (by decide) ?_
   have e2:gT2 bs xs.length r=(⟨(tk bs 32 r2).1.i,4⟩,0):=by unfold gT2;rw[eC];exact Aa (by show(4:Int)≠0;decide)
   unfold gC2;rw[e2];unfold bdK;rw[if_neg (fun e=>by cases e.1)]
  ·have eC:gC1 bs xs.length r=(tk bs 32 r2).1:=by rw[eC1];unfold bdK;rw[if_neg (fun e=>by have h:=e.2;unfold AB at h;rw[heq]at h;cases h)]
   exact Ya hi hiB G hx L X s1 I4 hz eS eC hc6 _ _ _ _ _ _ _
theorem Yc(hi:Eng.Inv (zW Tryz.prog s) h0)(hiB:Eng.Inv (zW Tryz.prog s) hB)(G:ErrS h0)(hx:zj h0 .u8 a bs)(L:bs.length≤65536)(X:MX h0 h hB bm bM bs xs ao co TM (gFl bs r) (gMt bs r).2 (gXf bs r).2 (gOs bs r).2 u4 u5 u6 (gEx bs r).2 (gNa bs r).2 (gCo bs r).2)(I:IM hB h' (kcG a c bs xs T TW bm bw) (gHd bs r) [] last l d)(hk:(gHd bs r).k=0)(okr:okR bs (gHd bs r))
  (ho:zd h' ⟨bm,3,none⟩=some (.slice ao xs.length co))(Ks:List Kt)(e2:Value) :
  gm2.wp Tryz.prog (zW Tryz.prog s) yg (PM h0 h bm a c bs T r xs ao co) [.pointer (some ⟨bm,0,none⟩),.pointer (some ⟨bM,0,none⟩),e2,.pointer (some ⟨bw,0,none⟩)] h' Ks:=by
 obtain⟨a4,l4,c4,a5,l5,c5,a7,l7,c7,rfl,rfl,rfl⟩:=X.f4
 simp only[gm2,Tr.wp,zG,Ex.ev,coerce,toInt_int,zb,zf,zi,zg,zh,zB,zZ,SV.den,zq,zL,zE,zo,zn,z9,zp,List.flatMap_cons,List.flatMap_nil,List.getD_cons_zero,List.getD_cons_succ,List.map_cons,List.map_nil,List.cons_append,List.nil_append,List.append_nil,Nat.zero_add,Nat.add_zero,and_true,if_true,if_false,Bool.false_eq_true,zm]
 refine⟨by simp,_,_,_,ho,?_⟩
 have hlx:=X.le
 have RA:Bg hB (kcG a c bs xs T TW bm bw) (8*bs.length+1) (gSt bs xs.length r) (fnV (kcG a c bs xs T TW bm bw) yp) h' (mz (kcG a c bs xs T TW bm bw) (gHd bs r)+0):=
  ⟨gHd bs r,[],hB,last,_,_,fun _ _ e=>e,I,hk,okr,8*bs.length+1,by have:=(okr hk).1;show 8*(bs.length:Int)+1≤(gHd bs r).i+((8*bs.length+1:Nat):Int);omega,.inl ⟨rfl,rfl,rfl⟩⟩
 have K:=Ug (S:=zW Tryz.prog s) hiB (G.el.sub X.sB) (by show 100000-xs.length≤200000;omega) (by show 0≤40000;omega) (by show 1≤32768∧32768≤32768;omega) (hx.sub X.sB) (by show bs.length≤1048576;omega) (Nat.le_refl _) RA
 refine zc.mono K ?_
 rintro _ h4 ⟨hb4,last4,l4,d4,rfl,sb4,I4,ok4⟩
 have sbB:=sb4.trans I4.sb
 refine⟨zA (gSt bs xs.length r).1.k,za,by rw[za],fun hz=>?_,fun hz=>?_⟩
 ·have hz:(gSt bs xs.length r).1.k≠0:=by simpa[zt,za]using hz
  refine⟨_,_,_,_,_,_,_,_,_,_,_,_,_,_,ld8 (X.cM' sbB),?_⟩
  rw[za]
  have ea:alg (gSt bs xs.length r).1=(gSt bs xs.length r).1:=by unfold alg;rw[if_neg hz]
  have e1:gT1 bs xs.length r=((gSt bs xs.length r).1,0):=by unfold gT1;rw[ea,Aa hz]
  have e2:gC1 bs xs.length r=(gSt bs xs.length r).1:=by unfold gC1;rw[e1];unfold bdK;rw[if_neg (fun e=>hz e.1)]
  have e3:gT2 bs xs.length r=((gSt bs xs.length r).1,0):=by unfold gT2;rw[e2,Aa hz]
  refine PM.bad X sb4 I4 rfl hz ?_
  unfold gC2;rw[e3];unfold bdK;rw[if_neg (fun e=>hz e.1)]
 ·have hz:(gSt bs xs.length r).1.k=0:=by simpa[zt,za]using hz
  refine⟨by simp,?_⟩
  refine zc.mono (Ou (k:=kcG a c bs xs T TW bm bw) (r:=(gSt bs xs.length r).1) (al:=(gSt bs xs.length r).2) (hiB.sub sb4) (by show bs.length≤1048576;omega) I4 hz) ?_
  rintro _ h5 ⟨rfl,I5⟩
  refine⟨rfl,?_⟩
  have hka:(alg (gSt bs xs.length r).1).k=0:=by unfold alg;rw[if_pos hz]
  exact Yb hi hiB G hx L X sb4 I5 hka rfl rfl (O0 Vt) _ _ _ _
end
theorem Na(hi:Eng.Inv (zW Tryz.prog s) h0)(G:ErrS h0)(hx:zj h0 .u8 a bs)(L:bs.length≤65536)(hc:bs.length≤c)(hb:okB bs)(nb:h0 bm=none){r:Rd}(H:MO h0 h bm a c bs T r xs ao co)(hk:r.k=0) :
  zc Tryz.prog (zW Tryz.prog s) kP #[.pointer (some ⟨bm,0,none⟩)] h (PM h0 h bm a c bs T r xs ao co):=by
 refine DJ (vs:=[.pointer (some ⟨bm,0,none⟩)]) ⟨rfl,trivial⟩ (hi.sub H.sb) ?_
 simp only[As,Tr.wp,zG,Ex.ev,coerce,toInt_int,zb,zf,zi,zg,zh,zB,Cst.val,SV.den,zq,zL,zE,zo,zn,yo,z9,zp,zO,List.flatMap_cons,List.flatMap_nil,List.replicate_one,List.getD_cons_zero,List.getD_cons_succ,List.map_cons,List.map_nil,List.cons_append,List.nil_append,List.append_nil,Nat.zero_add,Nat.add_zero,and_true,if_true,if_false,Bool.false_eq_true,zm]
 intro bM hbM
 obtain⟨p0,w,last,l,d,hp0,hr0,hm⟩:=H.mt
 obtain rfl:=hr0 hk
 have hbm:h bm≠none:=by rw[hm];simp
 have ne:bM≠bm:=fun e=>hbm (e▸hbM)
 have hM0:h0 bM=none:=zN H.sb hbM
 have outh:∀y,ze (.slice ao xs.length co)=some y→h y≠none:=fun y hy=>H.pt.held y hy
 have eA:(List.replicate 4 (Value.int .i64 0)++(List.replicate 3 (Value.slice none 0 0)++[Value.int .i64 0])).toArray=#[.int .i64 0,.int .i64 0,.int .i64 0,.int .i64 0,.slice none 0 0,.slice none 0 0,.slice none 0 0,.int .i64 0]:=rfl
 rw[eA]
 have cA:upd h bM (.cells #[.int .i64 0,.int .i64 0,.int .i64 0,.int .i64 0,.slice none 0 0,.slice none 0 0,.slice none 0 0,.int .i64 0] 24) bM=some (.cells #[.int .i64 0,.int .i64 0,.int .i64 0,.int .i64 0,.slice none 0 0,.slice none 0 0,.slice none 0 0,.int .i64 0] 24):=upd_same
 have fA:∀y,y≠bM→upd h bM (.cells #[.int .i64 0,.int .i64 0,.int .i64 0,.int .i64 0,.slice none 0 0,.slice none 0 0,.slice none 0 0,.int .i64 0] 24) y=h y:=fun y hy=>upd_ne hy
 have sA:Eng.Sub h0 (upd h bM (.cells #[.int .i64 0,.int .i64 0,.int .i64 0,.int .i64 0,.slice none 0 0,.slice none 0 0,.slice none 0 0,.int .i64 0] 24)):=yq H.sb hM0
 generalize upd h bM (.cells #[.int .i64 0,.int .i64 0,.int .i64 0,.int .i64 0,.slice none 0 0,.slice none 0 0,.slice none 0 0,.int .i64 0] 24)=hA at cA fA sA ⊢
 have ky:∀(i:Nat) (v:Value),(#[.int .i64 0,.int .i64 0,.int .i64 0,.int .i64 0,.slice none 0 0,.slice none 0 0,.slice none 0 0,.int .i64 0]:Array Value)[i]? = some v→zy hA ⟨bM,i,none⟩ v=hA:=fun i v hv=>De cA hv
 rw[ky (0) (.int .i64 0) rfl,ky (1) (.int .i64 0) rfl,ky (1+1) (.int .i64 0) rfl,ky (1+1+1) (.int .i64 0) rfl,ky (1+1+1+1) (.slice none 0 0) rfl,ky (1+1+1+1+1) (.slice none 0 0) rfl,ky (1+1+1+1+1+1) (.slice none 0 0) rfl,ky (1+1+1+1+1+1+1) (.int .i64 0) rfl]
 have okc:∀(i:Nat) (v:Value),zd hA ⟨bM,i,none⟩=some v→yC (zW Tryz.prog s) hA ⟨bM,i,none⟩:=fun i v hv=>⟨⟨v,hv⟩,by simp[yd,cA],fun hs=>hi bM hs hM0⟩
 obtain⟨z0,z1,z2,z3,z4,z5,z6,z7⟩:=ld8 cA
 refine⟨okc _ _ z0,okc _ _ z1,okc _ _ z2,okc _ _ z3,okc _ _ z4,okc _ _ z5,okc _ _ z6,okc _ _ z7,?_⟩
 have MA:MAt h0 hA bm a c bs p0 ⟨w,.slice ao xs.length co,100000-(xs.length:Int),last,l,d⟩ T:=⟨(fA bm (Ne.symm ne)).trans hm,nb,sA⟩
 refine zc.mono (Xk hi G hx L hc hb hp0 MA hM0 ne cA) ?_
 rintro _ hH ⟨rfl,bF,bE,u4,u5,u6,Q,HH⟩
 have hAs:∀y,hA y=none→y≠bM→h y=none:=fun y h1 h2=>by rw[←fA y h2];exact h1
 have fH:∀y,h y≠none→y≠bm→hH y=h y:=fun y h1 h2=>by
  have h3:y≠bM:=fun e=>h1 (e▸hbM)
  exact(HH.fr y (by rw[fA y h3];exact h1) h2 h3).trans (fA y h3)
 have PH:Part .u8 hH (.slice ao xs.length co) xs:=H.pt.keep fun y hy=>fH y (outh y hy) (H.nw y hy).2
 obtain⟨pH,qH1,qH2,MH⟩:=id HH.mp
 obtain⟨TM,cH⟩:=HH.mc
 obtain⟨⟨a4,l4,c4,rfl⟩,m4⟩:=HH.s4
 obtain⟨⟨a5,l5,c5,rfl⟩,m5⟩:=HH.s5
 obtain⟨⟨a6,l6,c6,rfl⟩,m6⟩:=HH.s6
 refine⟨zA (gHd bs ⟨(p0:Int),0⟩).k,za,by rw[za],fun hz=>?_,fun hz=>?_⟩
 ·have hz:(gHd bs ⟨(p0:Int),0⟩).k≠0:=by simpa[zt,za]using hz
  refine⟨_,_,_,_,_,_,_,_,_,_,_,_,_,_,ld8 cH,?_⟩
  rw[za]
  have e0:gSt bs xs.length ⟨(p0:Int),0⟩=(gHd bs ⟨(p0:Int),0⟩,[]):=by unfold gSt blF;rw[if_neg hz]
  have ea:alg (gHd bs ⟨(p0:Int),0⟩)=gHd bs ⟨(p0:Int),0⟩:=by unfold alg;rw[if_neg hz]
  have e1:gT1 bs xs.length ⟨(p0:Int),0⟩=(gHd bs ⟨(p0:Int),0⟩,0):=by unfold gT1;rw[e0,ea,Aa hz]
  have e2:gC1 bs xs.length ⟨(p0:Int),0⟩=gHd bs ⟨(p0:Int),0⟩:=by unfold gC1;rw[e1];unfold bdK;rw[if_neg (fun e=>hz e.1)]
  have e3:gT2 bs xs.length ⟨(p0:Int),0⟩=(gHd bs ⟨(p0:Int),0⟩,0):=by unfold gT2;rw[e2,Aa hz]
  have e4:gC2 bs xs.length ⟨(p0:Int),0⟩=gHd bs ⟨(p0:Int),0⟩:=by unfold gC2;rw[e3];unfold bdK;rw[if_neg (fun e=>hz e.1)]
  unfold PM
  rw[e4,e0]
  simp only[List.append_nil]
  exact⟨_,_,_,_,_,_,_,0,ao,co,rfl,⟨⟨pH,w,last,l,d,qH1,fun h=>absurd h hz,MH.hb⟩,PH,H.nw,HH.sb,H.le⟩,fun y g1 g2 _=>fH y g1 g2,fun y hy=>.inr hy,⟨_,_,_,_,_,_,_,_,_,rfl,rfl,rfl⟩,fun h=>absurd h hz⟩
 ·have hz:(gHd bs ⟨(p0:Int),0⟩).k=0:=by simpa[zt,za]using hz
  obtain⟨P4,N4⟩:=m4 hz
  obtain⟨P5,N5⟩:=m5 hz
  obtain⟨P6,N6⟩:=m6 hz
  obtain⟨hB,ehB⟩:∃hB:Eng.Heap,hB=fun y=>if y=bm∨ze (.slice ao xs.length co)=some y then none else hH y:=⟨_,rfl⟩
  have b1:∀y,y≠bm→ze (.slice ao xs.length co)≠some y→hB y=hH y:=fun y g1 g2=>by rw[ehB];exact if_neg (fun e=>e.elim g1 g2)
  have b2:∀y,(y=bm∨ze (.slice ao xs.length co)=some y)→hB y=none:=fun y g=>by rw[ehB];exact if_pos g
  have sB:Eng.Sub h0 hB:=fun y o ho=>by
   rw[b1 y (fun e=>by rw[e,nb]at ho;cases ho) (fun e=>by rw[(H.nw y e).1]at ho;cases ho)]
   exact HH.sb y o ho
  have hiB:Eng.Inv (zW Tryz.prog s) hB:=hi.sub sB
  have sBH:Eng.Sub hB hH:=fun y o ho=>by
   by_cases g:y=bm∨ze (.slice ao xs.length co)=some y
   ·rw[b2 y g]at ho;cases ho
   ·rw[←b1 y (fun e=>g (.inl e)) (fun e=>g (.inr e))];exact ho
  have nMo:ze (.slice ao xs.length co)≠some bM:=fun e=>outh bM e hbM
  have pk:∀ {u:Value} {x:List Int},Part .u8 hH u x→(∀y,ze u=some y→hA y=none∧y≠bm∧y≠bE∧y≠bM)→Part .u8 hB u x∧∀y,ze u=some y→h y=none∧y≠bm∧y≠bM:=fun P N=>
   ⟨P.keep fun y hy=>b1 y (N y hy).2.1 (fun e=>outh y e (hAs y (N y hy).1 (N y hy).2.2.2)),fun y hy=>⟨hAs y (N y hy).1 (N y hy).2.2.2,(N y hy).2.1,(N y hy).2.2.2⟩⟩
  have X:MX h0 h hB bm bM bs xs ao co TM (gFl bs ⟨(p0:Int),0⟩) (gMt bs ⟨(p0:Int),0⟩).2 (gXf bs ⟨(p0:Int),0⟩).2 (gOs bs ⟨(p0:Int),0⟩).2 _ _ _ (gEx bs ⟨(p0:Int),0⟩).2 (gNa bs ⟨(p0:Int),0⟩).2 (gCo bs ⟨(p0:Int),0⟩).2:=
   ⟨sB,b2 bm (.inl rfl),hbM,hM0,ne,fun y g1 g2 g3=>(b1 y g2 g3).trans (fH y g1 g2),(b1 bM ne nMo).trans cH,pk P4 N4,pk P5 N5,pk P6 N6,⟨_,_,_,_,_,_,_,_,_,rfl,rfl,rfl⟩,H.le⟩
  simp only[gm1,Tr.wp,zG,Ex.ev,coerce,zb,zh,zB,zZ,Cst.val,SV.den,zq,zL,zE,zo,zn,z9,zO,List.flatMap_cons,List.flatMap_nil,List.getD_cons_zero,List.getD_cons_succ,List.map_cons,List.map_nil,List.cons_append,List.nil_append,List.append_nil,Nat.zero_add,Nat.add_zero,if_false,Bool.false_eq_true,zm]
  have KR:=Tm (S:=zW Tryz.prog s) (sz:=32768) (hi.sub HH.sb) none 0 [] (Nat.le_refl _) (by decide) (fun i x hx=>by simp at hx) (by decide) (by decide)
  refine zc.mono KR ?_
  rintro _ h2 ⟨bw,TW,rfl,RW⟩
  obtain⟨dd,at_,nn,hbw,R,s2,hnw⟩:=RW
  have hm2:=s2 _ _ MH.hb
  have nw:bm≠bw:=fun e=>by rw[←e,MH.hb]at hnw;cases hnw
  refine⟨_,rfl,by simp,k9 hm2 (fun hs=>hi bm hs nb) (ya hm2).2.2.1,?_⟩
  have eh:zy h2 ⟨bm,2,none⟩ (.pointer (some ⟨bw,0,none⟩))=upd h2 bm (zQ a c bs pH ⟨.pointer (some ⟨bw,0,none⟩),.slice ao xs.length co,100000-(xs.length:Int),last,l,d⟩ T):=by rw[hset_cells' hm2];rfl
  rw[eh]
  have onb:∀y,ze (.slice ao xs.length co)=some y→y≠bm∧y≠bw:=fun y hy=>⟨(H.nw y hy).2,fun e=>by subst e;have:=PH.held y hy;exact this hnw⟩
  have sB3:Eng.Sub hB (upd h2 bm (zQ a c bs pH ⟨.pointer (some ⟨bw,0,none⟩),.slice ao xs.length co,100000-(xs.length:Int),last,l,d⟩ T)):=yq (sBH.trans s2) X.nB
  have er:(((100000-xs.length:Nat):Int)-(((([]:List Int).length-0:Nat)):Int))=100000-(xs.length:Int):=by have:=H.le;simp only[List.length_nil];omega
  have I:IM hB (upd h2 bm (zQ a c bs pH ⟨.pointer (some ⟨bw,0,none⟩),.slice ao xs.length co,100000-(xs.length:Int),last,l,d⟩ T)) (kcG a c bs xs T TW bm bw) (gHd bs ⟨(p0:Int),0⟩) [] last l d:=by
   have eo:(kcG a c bs xs T TW bm bw).otl []=xs:=by simp[KC.otl]
   refine⟨⟨pH,ao,co,qH1,fun hk=>by rw[qH2 hk],?_,?_,?_⟩,⟨dd,at_,nn,(upd_ne (Ne.symm nw)).trans hbw,R,sB3,zN sBH hnw⟩,X.nB,nw,sB3,⟨Nat.le_refl _,Nat.zero_le _,H.le⟩⟩
   ·rw[eo]
    show upd h2 bm _ bm=_
    rw[upd_same]
    show some (zQ a c bs pH ⟨_,_,100000-(xs.length:Int),_,_,_⟩ T)=_
    rw[←er];rfl
   ·rw[eo];exact(PH.sub s2).keep fun y hy=>upd_ne (onb y hy).1
   ·rw[eo];intro y hy;exact qQ.2 ⟨by simp[(onb y hy).1,(onb y hy).2],b2 y (.inr hy)⟩
  exact Yc hi hiB G hx L X I hz (Xf (fun _=>⟨by simp only;omega,by simp only;omega⟩)) (ya upd_same).2.2.2.1 _ _
end
end Go.Proofs.YtnhbgoiihgoneaaGreatDoor
end
section
namespace Go.Proofs.YtnhbgoiihgoneaaGreatDoor
open Go Go.Eng Go.IntWalk
theorem Nb(x:Int)(a:Nat):∀b:Nat,tl x (a+b)=2^b*tl x a+tl (x/2^a) b
 | 0=>by simp[tl]
 | b+1=>by
  have hd:x/2^a/2^b=x/2^(a+b):=by rw[Int.ediv_ediv_of_nonneg (Int.le_of_lt (Int.pow_pos (by decide))),←Int.pow_add]
  rw[←Nat.add_assoc,tl,Nb x a b,tl,hd,Int.pow_succ]
  have e:(2:Int)^b*2*tl x a=2*(2^b*tl x a):=by rw[Int.mul_comm (2^b) 2,Int.mul_assoc]
  rw[e];omega
theorem Xl(x:Int)(a b:Nat):tl x (a+b)%2^b=tl (x/2^a) b:=by
 have h:=Lz (x:=x/2^a) (n:=b)
 rw[Nb,Int.add_comm,Int.add_mul_emod_self_left]
 exact Int.emod_eq_of_lt h.1 h.2
theorem VI(z:Int)(n:Nat):z%2^(n+1)=z%2^n+2^n*(z/2^n%2):=by
 have hp:(0:Int)<2^n:=Int.pow_pos (by decide)
 have hd:z/(2^n*2)=z/2^n/2:=(Int.ediv_ediv_of_nonneg (Int.le_of_lt hp)).symm
 rw[Int.pow_succ,Int.emod_def z (2^n*2),hd,Int.emod_def z (2^n),Int.emod_def (z/2^n) 2,Int.mul_sub,Int.mul_assoc]
 omega
theorem Nc{xs:List Int}{M:Nat}(hM:1≤M):∀ {d:Nat},2^d*(2*(cst xs M+((xs.count (M:Int):Nat):Int)))≤cst xs (M+1+d)
 | 0=>by simp only[cst,Int.pow_zero,Int.one_mul,if_neg (show ¬M=0 by omega)];omega
 | d+1=>by
  have ih:=Nc (xs:=xs) hM (d:=d)
  rw[←Nat.add_assoc,cst,if_neg (by omega),Int.pow_succ]
  have e:(2:Int)^d*2*(2*(cst xs M+((xs.count (M:Int):Nat):Int)))=2*(2^d*(2*(cst xs M+((xs.count (M:Int):Nat):Int)))):=by rw[Int.mul_comm (2^d) 2,Int.mul_assoc]
  rw[e]
  have:(0:Int)≤((xs.count ((M+1+d:Nat):Int):Nat):Int):=Int.natCast_nonneg _
  omega
theorem I6{xs:List Int}(h:¬(zu xs=0∨zu xs=2)){j l v:Nat}(hl:0<l)(hj:(zF xs)[j]? = some (l,v)) :
  ∃hj:j<xs.length,xs[j]=(l:Int)∧l≤15∧v<2^l∧(v:Int)=tl (cst xs l+(((xs.take j).count (l:Int):Nat):Int)) l:=by
 obtain⟨hlen,hok⟩:=j6 h
 have hj1:j<xs.length:=by have:=(List.getElem?_eq_some_iff.1 hj).1;rwa[x7]at this
 have hg:=ql (xs:=xs) hj1
 have hb:=hok _ (List.getElem_mem hj1)
 obtain⟨k,hk⟩:=Int.eq_ofNat_of_zero_le hb.1
 obtain⟨l',b',e,hn,h15,hlt⟩:=k6 hok hg
 rw[hj]at hn
 simp only[Option.some.injEq,Prod.mk.injEq]at hn
 obtain⟨rfl,rfl⟩:=hn
 by_cases h1:1≤xs[j]
 ·rw[if_pos h1,Bx hj1 hk]at e
  simp only[Prod.mk.injEq]at e
  have e1:k=l:=by exact_mod_cast e.1
  subst e1
  exact⟨hj1,hk,h15,hlt,e.2.symm⟩
 ·rw[if_neg h1]at e
  simp only[Prod.mk.injEq]at e
  omega
def PQ(cs:List (Nat×Nat)):Prop:=∀s t L v M w:Nat,s≠t→cs[s]? = some (L,v)→cs[t]? = some (M,w)→0<M→M≤L→v%2^M≠w
theorem NN{xs:List Int}(h:¬(zu xs=0∨zu xs=2)):PQ (zF xs):=by
 intro s t L v M w hst hs ht hM hML heq
 have hk:=Uq h
 obtain⟨hj1,e1,L15,hv,ev⟩:=I6 h (by omega) hs
 obtain⟨hj2,e2,M15,hw,ew⟩:=I6 h hM ht
 by_cases hlt:M=L
 ·subst hlt
  rw[Nat.mod_eq_of_lt hv]at heq
  subst heq
  exact hst (Js h s t M v hM hs ht)
 ·obtain⟨d,rfl⟩:∃d,L=M+1+d:=⟨L-(M+1),by omega⟩
  have c1:=qk hj1 e1
  have c2:=qk hj2 e2
  have r1:=Iq (xs:=xs) hk (l:=M+1+d) (by omega) L15
  have r2:=Iq (xs:=xs) hk (l:=M) (by omega) M15
  have hc:=j6 h
  have n1:=(kF (xs:=xs) hc.1 (l:=M+1+d) (by omega)).1
  have n2:=(kF (xs:=xs) hc.1 (l:=M) (by omega)).1
  have st:=Nc (xs:=xs) (M:=M) hM (d:=d)
  generalize hK:cst xs (M+1+d)+(((xs.take s).count ((M+1+d:Nat):Int):Nat):Int)=K at ev
  generalize hJ:cst xs M+(((xs.take t).count (M:Int):Nat):Int)=J at ew
  have hq:(v:Int)%2^M=(w:Int):=by rw[yP];exact_mod_cast congrArg Nat.cast heq
  rw[ev,ew,show M+1+d=(1+d)+M by omega,Xl]at hq
  have hp:(0:Int)<2^(1+d):=Int.pow_pos (by decide)
  have hp2:(2:Int)^(1+d)=2*2^d:=by rw[Nat.add_comm,Int.pow_succ];omega
  have hpM:(0:Int)<2^M:=Int.pow_pos (by decide)
  have hKn:0≤K:=by omega
  have hi:=Ml (Int.ediv_nonneg hKn (Int.le_of_lt hp)) (by omega) hq
  have hJlt:J<2^M:=by omega
  have hKlt:K/2^(1+d)<2^M:=by
   refine Int.ediv_lt_of_lt_mul hp ?_
   rw[←Int.pow_add,show M+(1+d)=M+1+d by omega];omega
  rw[Int.emod_eq_of_lt (Int.ediv_nonneg hKn (Int.le_of_lt hp)) hKlt,Int.emod_eq_of_lt (by omega) hJlt]at hi
  have hge:J+1≤K/2^(1+d):=by
   rw[Int.le_ediv_iff_mul_le hp,hp2]
   have e3:(J+1)*(2*2^d)≤(cst xs M+((xs.count (M:Int):Nat):Int))*(2*2^d):=Int.mul_le_mul_of_nonneg_right (by omega) (by omega)
   have e4:(cst xs M+((xs.count (M:Int):Nat):Int))*(2*2^d)=2^d*(2*(cst xs M+((xs.count (M:Int):Nat):Int))):=by
    generalize cst xs M+((xs.count (M:Int):Nat):Int)=q
    rw[Int.mul_comm q,Int.mul_comm 2 (2^d),Int.mul_assoc]
   omega
  omega
theorem Xm{cs:List (Nat×Nat)}(U:PQ cs){s L v l:Nat}(h:cs[s]? = some (L,v))(hl:l<L):Ym cs cs.length l (v%2^l)=0:=by
 refine Og fun t ht hc h0=>?_
 have hst:s≠t:=fun e=>by
  subst e;rw[h]at hc
  simp only[Option.some.injEq,Prod.mk.injEq]at hc
  omega
 exact U s t L v l (v%2^l) hst h hc h0 (by omega) rfl
theorem Xn{cs:List (Nat×Nat)}{s L v l:Nat}(h:cs[s]? = some (L,v))(hl:l<L):Ec cs l (v%2^l):=⟨(L,v),List.mem_of_getElem? h,hl,rfl⟩
theorem KZ{cs:List (Nat×Nat)}(U:uniq cs)(F:PQ cs){s L v b:Nat}(h:cs[s]? = some (L,v))(h0:0<L)(hb:b%2^L=v):∀(f l:Nat),l≤L→L<f+l→nxt cs b f l=(1,(s:Int),(L:Int))
 | 0,l,h1,h2=>by omega
 | f+1,l,h1,h2=>by
  unfold nxt
  by_cases hl:l=L
  ·subst hl
   rw[hb,X4 U h h0 (List.getElem?_eq_some_iff.1 h).1]
   simp
  ·have e:b%2^l=v%2^l:=by rw[←hb,JZ h1]
   rw[e,Xm F h (by omega),if_neg (by simp),if_pos (Xn h (by omega)),KZ U F h h0 hb f (l+1) (by omega) (by omega)]
end Go.Proofs.YtnhbgoiihgoneaaGreatDoor
end
section
namespace Go.Proofs.YtnhbgoiihgoneaaGreatDoor
open Go Go.Eng Go.IntWalk
def AtB(B:List Int)(p:Nat)(s:List Int):Prop:=p+s.length≤8*B.length∧∀j x,s[j]? = some x→xy B (p+j)=x
section
variable {B : List Int} {p : Nat} {s t : List Int}
theorem AtB.left(H:AtB B p (s++t)):AtB B p s:=
 ⟨by have:=H.1;rw[List.length_append]at this;omega,fun j x hj=>H.2 j x (by rw[List.getElem?_append_left (List.getElem?_eq_some_iff.1 hj).1];exact hj)⟩
theorem AtB.right(H:AtB B p (s++t)):AtB B (p+s.length) t:=
 ⟨by have:=H.1;rw[List.length_append]at this;omega,fun j x hj=>by
  have:=H.2 (s.length+j) x (by rw[List.getElem?_append_right (by omega),Nat.add_sub_cancel_left];exact hj)
  rw[←Nat.add_assoc]at this;exact this⟩
theorem PS{x:Int}{n j:Nat}(h:j<n):(bitsOf x n)[j]? = some (x/2^j%2):=by simp[bitsOf,h]
theorem Fp{x:Int}:∀ {n:Nat},(∀j,j<n→xy B (p+j)=x/2^j%2)→yw B p n=x%2^n
 | 0,_=>by simp[yw,Int.emod_one]
 | n+1,H=>by
  rw[yw,Fp (n:=n) fun j hj=>H j (by omega),H n (by omega),VI,Int.mul_comm (2^n)]
theorem AtB.num{x:Int}{n:Nat}(H:AtB B p (bitsOf x n)):yw B p n=x%2^n:=
 Fp fun j hj=>H.2 j _ (PS hj)
theorem Ab{a:Nat}:∀ {d:Nat},yw B p (a+d)=yw B p a+2^a*yw B (p+a) d
 | 0=>by simp[yw]
 | d+1=>by
  rw[←Nat.add_assoc,yw,Ab (d:=d),yw,Int.mul_add,Int.pow_add,Nat.add_assoc,Int.add_assoc]
  congr 2
  ac_rfl
theorem RP{a d:Nat}:yw B p (a+d)%2^a=yw B p a:=by
 have:=Cp (xs:=B) (a:=p) (n:=a)
 rw[Ab,Int.add_mul_emod_self_left]
 exact Int.emod_eq_of_lt this.1 this.2
theorem Dt{n:Nat}(h:p+n≤8*B.length):tk B n ⟨(p:Int),0⟩=(⟨((p+n:Nat):Int),0⟩,yw B p n):=by
 unfold tk
 rw[if_pos rfl,if_neg (by simp only;omega)]
 simp only[Int.toNat_natCast]
 push_cast;rfl
theorem AtB.tk{x:Int}{n:Nat}(H:AtB B p (bitsOf x n))(h0:0≤x)(h1:x<2^n):tk B n ⟨(p:Int),0⟩=(⟨((p+n:Nat):Int),0⟩,x):=by
 have:=H.1
 rw[xb]at this
 rw[Dt this,H.num,Int.emod_eq_of_lt h0 h1]
theorem AtB.sy{xs:List Int}(hg:¬(zu xs=0∨zu xs=2)){s l b:Nat}(hc:(zF xs)[s]? = some (l,b))(h0:0<l)(H:AtB B p (bitsOf b l)):sy B (zF xs) ⟨(p:Int),0⟩=(⟨((p+l:Nat):Int),0⟩,(s:Int)):=by
 obtain⟨_,_,h15,hlt,_⟩:=I6 hg h0 hc
 have hp:=H.1
 rw[xb]at hp
 have hL:l≤look B p:=by unfold look;omega
 obtain⟨d,hd⟩:∃d,look B p=l+d:=⟨look B p-l,by omega⟩
 have hn:yw B p (look B p)%2^l=(b:Int):=by
  rw[hd,RP,H.num]
  refine Int.emod_eq_of_lt (by omega) ?_
  rw[yP];exact_mod_cast hlt
 have hb:(yw B p (look B p)).toNat%2^l=b:=by
  obtain⟨m,hm⟩:=Int.eq_ofNat_of_zero_le (Cp (xs:=B) (a:=p) (n:=look B p)).1
  rw[hm]at hn ⊢
  rw[yP]at hn
  rw[Int.toNat_natCast]
  exact_mod_cast hn
 have e:nxB B (zF xs) p=(1,(s:Int),(l:Int)):=by
  unfold nxB
  exact KZ (Js hg) (NN hg) hc h0 hb (look B p+1) 0 (by omega) (by omega)
 unfold Go.Proofs.YtnhbgoiihgoneaaGreatDoor.sy
 rw[if_pos rfl]
 simp only[Int.toNat_natCast,e]
 simp
end
theorem O9{c:Nat}(h:c<288):∃l b:Nat,(zF yk)[c]? = some (l,b)∧0<l∧l≤15∧b<2^l∧yW c=bitsOf b l∧(l:Int)=(if c<144 then 8 else if c<256 then 9 else if c<280 then 7 else 8):=by
 have hok:=(j6 wZ).2
 have hj:c<yk.length:=by rw[j7];exact h
 have hg:=ql (xs:=yk) hj
 obtain⟨l,b,e,hn,h1,h2⟩:=k6 hok hg
 have hv:yk[c]=(if c<144 then 8 else if c<256 then 9 else if c<280 then 7 else 8):=by
  have:=Mq h
  rw[List.getElem?_eq_getElem hj]at this
  exact Option.some.inj this
 have hpos:1≤yk[c]:=by rw[hv];split <;> (try split) <;> (try split) <;> omega
 obtain⟨m,hm⟩:=Int.eq_ofNat_of_zero_le (show 0≤yk[c] by omega)
 rw[if_pos hpos,Bx hj hm]at e
 have el:(l:Int)=yk[c]:=by rw[hm];exact(Prod.mk.inj e).1.symm
 obtain⟨l',b',g1,_,_,g4⟩:=qZ h
 rw[if_pos hpos,Bx hj hm,e]at hg
 rw[hg]at g1
 simp only[Option.some.injEq,Prod.mk.injEq]at g1
 have q1:l=l':=by exact_mod_cast g1.1
 have q2:b=b':=by exact_mod_cast g1.2
 subst q1;subst q2
 exact⟨l,b,hn,by omega,h1,h2,g4,by rw[el,hv]⟩
section
variable {B : List Int} {p : Nat} {dl room sz : Nat}
theorem U6{c:Nat}(h:c<288)(H:AtB B p (yW c)):sy B (zF yk) ⟨(p:Int),0⟩=(⟨((p+(yW c).length:Nat):Int),0⟩,(c:Int)):=by
 obtain⟨l,b,h1,h2,_,_,h5,_⟩:=O9 h
 rw[h5]at H ⊢
 rw[xb]
 exact H.sy wZ h1 h2
theorem RQ{r:Rd}{al d:List Int}(hk:r.k=0)(h:al.length-dl+d.length≤room):tell dl room r al d=(r,al++d):=by
 unfold tell;rw[if_pos hk,if_neg (by omega)]
theorem Ul{cd:List (Nat×Nat)}(xs:List Int):∀(f p:Nat) (al:List Int),(∀x∈xs,0≤x∧x≤255)→xs.length+1≤f→dl≤al.length→al.length-dl+xs.length≤room→AtB B p (xs.flatMap (fun c=>yW c.toNat)++yW 256) →
  syF B (zF yk) cd dl room sz f ⟨(p:Int),0⟩ al=(⟨((p+(xs.flatMap (fun c=>yW c.toNat)++yW 256).length:Nat):Int),0⟩,al++xs):=by
 obtain⟨E,hE⟩:∃E,E=yW 256:=⟨_,rfl⟩
 have endS:∀ {p:Nat},AtB B p E→sy B (zF yk) ⟨(p:Int),0⟩=(⟨((p+E.length:Nat):Int),0⟩,((256:Nat):Int)):=fun H=>by rw[hE]at H ⊢;exact U6 (by omega) H
 rw[←hE]
 induction xs with
 | nil=>
  intro f p al hw hf hd hr H
  obtain⟨f,rfl⟩:∃f',f=f'+1:=⟨f-1,by simp at hf;omega⟩
  rw[List.flatMap_nil,List.nil_append]at H ⊢
  rw[syF,if_pos rfl,endS H,if_pos (.inr rfl),List.append_nil]
 | cons x xs ih=>
  intro f p al hw hf hd hr H
  have hx:=hw x (List.mem_cons_self ..)
  obtain⟨c,rfl⟩:=Int.eq_ofNat_of_zero_le hx.1
  rw[List.length_cons]at hf hr
  obtain⟨f,rfl⟩:∃f',f=f'+1:=⟨f-1,by omega⟩
  rw[List.flatMap_cons,List.append_assoc,Int.toNat_natCast]at H ⊢
  have e1:=U6 (c:=c) (by omega) H.left
  have e2:sy1 B cd dl room sz ⟨((p+(yW c).length:Nat):Int),0⟩ al (c:Int)=(⟨((p+(yW c).length:Nat):Int),0⟩,al++[(c:Int)]):=by
   unfold sy1;rw[if_pos (by omega)]
   exact RQ rfl (by rw[List.length_singleton];omega)
  rw[syF,if_pos rfl,e1,if_neg (by simp only;omega)]
  simp only[e2]
  rw[ih f (p+(yW c).length) (al++[(c:Int)]) (fun y hy=>hw y (List.mem_cons_of_mem _ hy)) (by omega) (by rw[List.length_append];omega) (by rw[List.length_append,List.length_singleton];omega) H.right]
  rw[@List.length_append _ (yW c),Nat.add_assoc,List.append_assoc];rfl
theorem VJ{xs:List Int}:xp xs=bitsOf 1 1++(bitsOf 1 2++(xs.flatMap (fun c=>yW c.toNat)++yW 256)):=by
 have e1:bitsOf 1 1=[1]:=by decide
 have e2:bitsOf 1 2=[1,0]:=by decide
 rw[e1,e2];unfold xp;rw[List.append_assoc];rfl
theorem RR{F f:Nat}{al:List Int}{rest:List Int}{R:Rd×List Int}(H:AtB B p (bitsOf 1 1++(bitsOf 1 2++rest)))(hR:syF B (zF yk) (zF qy) dl room sz F ⟨((p+3:Nat):Int),0⟩ al=R) :
  blF B dl room sz F (f+1) ⟨(p:Int),0⟩ al=R:=by
 have H1:=H.left
 have H2:=H.right.left
 rw[xb]at H2
 have e1:bk1 B ⟨(p:Int),0⟩=(⟨((p+1:Nat):Int),0⟩,1):=H1.tk (by decide) (by decide)
 have e2:bk2 B ⟨(p:Int),0⟩=(⟨((p+3:Nat):Int),0⟩,1):=by
  unfold bk2;rw[e1];exact H2.tk (by decide) (by decide)
 have e3:bk3 B ⟨(p:Int),0⟩=⟨((p+3:Nat):Int),0⟩:=by
  unfold bk3;rw[e2];unfold bd;rw[if_neg (by simp)]
 rw[blF,if_pos rfl,e1,if_pos (by simp)]
 unfold blk
 rw[e3,if_neg (by simp),e2,if_neg (by simp),if_pos rfl]
 exact hR
theorem RU{F f:Nat}{al xs:List Int}(hw:∀x∈xs,0≤x∧x≤255)(hF:xs.length+1≤F)(hd:dl≤al.length)(hr:al.length-dl+xs.length≤room)(H:AtB B p (xp xs)) :
  blF B dl room sz F (f+1) ⟨(p:Int),0⟩ al=(⟨((p+(xp xs).length:Nat):Int),0⟩,al++xs):=by
 rw[VJ]at H ⊢
 refine RR H ?_
 have H3:=H.right.right
 rw[xb,xb,Nat.add_assoc]at H3
 rw[Ul xs F (p+3) al hw hF hd hr H3]
 rw[@List.length_append _ (bitsOf 1 1),@List.length_append _ (bitsOf 1 2),xb,xb]
 congr 2
 push_cast;omega
end
theorem VK{v b:Int}{i m:Nat}(h:m<i):(v+b*2^i).fdiv (2^m)%2=v.fdiv (2^m)%2:=by
 have hp:(0:Int)<2^m:=Int.pow_pos (by decide)
 obtain⟨d,rfl⟩:∃d,i=m+1+d:=⟨i-(m+1),by omega⟩
 rw[Int.fdiv_eq_ediv_of_nonneg _ (Int.le_of_lt hp),Int.fdiv_eq_ediv_of_nonneg _ (Int.le_of_lt hp)]
 have e:b*2^(m+1+d)=2^m*(2*(b*2^d)):=by
  rw[Int.pow_add,Int.pow_succ]
  generalize (2:Int)^m=q
  generalize (2:Int)^d=w
  ac_rfl
 rw[e,Int.add_mul_ediv_left _ _ (Int.ne_of_gt hp),Int.add_mul_emod_self_left]
theorem VL{v b:Int}{i:Nat}(h0:0≤v)(h1:v<2^i)(hb:0≤b∧b≤1):(v+b*2^i).fdiv (2^i)%2=b:=by
 have hp:(0:Int)<2^i:=Int.pow_pos (by decide)
 rw[Int.fdiv_eq_ediv_of_nonneg _ (Int.le_of_lt hp),Int.mul_comm b,Int.add_mul_ediv_left _ _ (Int.ne_of_gt hp),Int.ediv_eq_zero_of_lt h0 h1]
 omega
theorem Nd{bs:List Int}(hb:∀b∈bs,0≤b∧b≤1):∀ {k j:Nat},j<k→xy (pk bs k) j=bs.getD j 0
 | 0,j,h=>by omega
 | k+1,j,h=>by
  have hbit:0≤bs.getD k 0∧bs.getD k 0≤1:=by
   rw[List.getD_eq_getElem?_getD]
   cases hg:bs[k]? with
   | none=>simp
   | some x=>exact hb x (List.mem_of_getElem? hg)
  have hl:=qR (bs:=bs) (k:=k)
  have hlen:k/8<(if k%8=0 then pk bs k++[0]else pk bs k).length:=by
   split
   ·rw[List.length_append,hl,List.length_singleton];omega
   ·omega
  have hpb:=CN hb (k:=k)
  have zy:(pk bs (k+1)).getD (k/8) 0=xh (pk bs k) k+bs.getD k 0*2^(k%8):=by
   rw[pk];unfold qa
   rw[List.getD_eq_getElem?_getD,List.getElem?_set_self hlen]
   rfl
  unfold xy
  by_cases hj:j/8=k/8
  ·rw[hj,zy]
   by_cases hjk:j=k
   ·rw[hjk];exact VL hpb.1 hpb.2 hbit
   ·have hk0:k%8≠0:=by omega
    rw[VK (by omega)]
    have ih:=Nd hb (k:=k) (j:=j) (by omega)
    unfold xy at ih
    rw[hj]at ih
    have ep:xh (pk bs k) k=(pk bs k).getD (k/8) 0:=by unfold xh;rw[if_neg hk0]
    rw[ep];exact ih
  ·have ih:=Nd hb (k:=k) (j:=j) (by omega)
   unfold xy at ih
   rw[←ih]
   congr 2
   rw[pk];unfold qa
   rw[List.getD_eq_getElem?_getD,List.getElem?_set_ne (by omega)]
   rw[List.getD_eq_getElem?_getD]
   split
   ·rw[List.getElem?_append_left (by omega)]
   ·rfl
theorem PT{A C:List Int}{i:Nat}(h:i/8<A.length):xy (A++C) i=xy A i:=by
 unfold xy;rw[List.getD_eq_getElem?_getD,List.getD_eq_getElem?_getD,List.getElem?_append_left h]
theorem NO{A C:List Int}{i:Nat}:xy (A++C) (8*A.length+i)=xy C i:=by
 unfold xy
 rw[show(8*A.length+i)/8=A.length+i/8 by omega,show(8*A.length+i)%8=i%8 by omega,List.getD_eq_getElem?_getD,List.getD_eq_getElem?_getD,List.getElem?_append_right (by omega),Nat.add_sub_cancel_left]
theorem Yd{s:List Int}(hb:∀b∈s,0≤b∧b≤1)(A C:List Int):AtB (A++(pk s s.length++C)) (8*A.length) s:=by
 have hl:=qR (bs:=s) (k:=s.length)
 refine⟨by simp only[List.length_append];omega,fun j x hj=>?_⟩
 have hlt:=(List.getElem?_eq_some_iff.1 hj).1
 rw[NO,PT (by omega),Nd hb hlt,List.getD_eq_getElem?_getD,hj];rfl
section
variable {B : List Int} {q : Nat}
theorem qf {x : Int} (h : B[q]? = some x) (hx : 0 ≤ x ∧ x ≤ 255) : yw B (8 * q) 8 = x := by
  have e : yw B (8 * q) 8 = x % 2 ^ 8 := by
    refine Fp fun j hj => ?_
    unfold xy
    rw [show (8 * q + j) / 8 = q by omega, show (8 * q + j) % 8 = j by omega, List.getD_eq_getElem?_getD, h, Option.getD_some, Int.fdiv_eq_ediv_of_nonneg _ (Int.le_of_lt (Int.pow_pos (by decide)))]
  rw [e]
  exact Int.emod_eq_of_lt hx.1 (by have : (2 : Int) ^ 8 = 256 := by decide
                                   omega)
theorem VM{x:Int}(h:B[q]? = some x)(hx:0≤x∧x≤255):tk B 8 ⟨((8*q:Nat):Int),0⟩=(⟨((8*(q+1):Nat):Int),0⟩,x):=by
 have:=(List.getElem?_eq_some_iff.1 h).1
 rw[Dt (by omega),qf h hx]
 rfl
theorem Xo{x y:Int}(h:B[q]? = some x)(g:B[q+1]? = some y)(hx:0≤x∧x≤255)(hy:0≤y∧y≤255):tk B 16 ⟨((8*q:Nat):Int),0⟩=(⟨((8*(q+2):Nat):Int),0⟩,x+256*y):=by
 have:=(List.getElem?_eq_some_iff.1 g).1
 have e8:(2:Int)^8=256:=by decide
 rw[Dt (by omega),show(16:Nat)=8+8 from rfl,Ab,qf h hx,show 8*q+8=8*(q+1) by omega,qf g hy,e8]
 rfl
end
def AtY(B:List Int)(q:Nat)(ys:List Int):Prop:=∀j x,ys[j]? = some x→B[q+j]? = some x
section
variable {B : List Int} {q : Nat} {ys zs : List Int}
theorem AtY.left(H:AtY B q (ys++zs)):AtY B q ys:=fun j x hj=>H j x (by rw[List.getElem?_append_left (List.getElem?_eq_some_iff.1 hj).1];exact hj)
theorem AtY.right(H:AtY B q (ys++zs)):AtY B (q+ys.length) zs:=fun j x hj=>by
 have:=H (ys.length+j) x (by rw[List.getElem?_append_right (by omega),Nat.add_sub_cancel_left];exact hj)
 rw[←Nat.add_assoc]at this;exact this
theorem AtY.mk{A C:List Int}:AtY (A++(ys++C)) A.length ys:=fun j x hj=>by
 rw[List.getElem?_append_right (by omega),Nat.add_sub_cancel_left,List.getElem?_append_left (List.getElem?_eq_some_iff.1 hj).1];exact hj
theorem AtY.le(H:AtY B q ys)(h0:ys ≠ []):q+ys.length≤B.length:=by
 have hp:0<ys.length:=List.length_pos_iff.2 h0
 have:=(List.getElem?_eq_some_iff.1 (H (ys.length-1) _ (List.getElem?_eq_getElem (by omega)))).1
 omega
end
end Go.Proofs.YtnhbgoiihgoneaaGreatDoor
end
section
namespace Go.Proofs.YtnhbgoiihgoneaaGreatDoor
open Go Go.Eng Go.IntWalk
variable {S : Shared} {h h0 : Eng.Heap}
def le(x n:Nat):List Int:=(List.range n).map fun i=>((x/256^i%256:Nat):Int)
def be(x n:Nat):List Int:=(le x n).reverse
theorem xe{x n:Nat}:(le x n).length=n:=by simp[le]
theorem Xp{x n:Nat}:(be x n).length=n:=by simp[be,xe]
theorem le_succ{x n:Nat}:le x (n+1)=le x n++[((x/256^n%256:Nat):Int)]:=by simp[le,List.range_succ]
theorem VN{x n:Nat}:be x (n+1)=[((x/256^n%256:Nat):Int)]++be x n:=by simp[be,le_succ]
theorem VO{x n:Nat}:∀y∈le x n,0≤y∧y<256:=fun y hy=>by
 obtain⟨i,_,rfl⟩:=List.mem_map.1 hy;omega
def jU(x n:Nat)(hb:Bool):List Int:=if hb then be x n else le x n
theorem jA{x n:Nat}{hb:Bool}:(jU x n hb).length=n:=by unfold jU;split <;> simp[Xp,xe]
theorem EE(hi:Eng.Inv S h)(x:Nat)(hx:x<18446744073709551616)(n:Nat)(hn:n≤8)(hb:Bool) :
  zc Tryz.prog S j4 #[.int .u64 x,.int .i64 n,.bool hb] h (fun v h'=>Part .u8 h' v (jU x n hb)∧Eng.New h v∧Eng.Sub h h'):=by
 refine JW (vs:=[.int .u64 x,.int .i64 n,.bool hb]) ⟨rfl,rfl,rfl,trivial⟩ hi ?_
 simp only[Gk,Tr.wp,Ex.ev,coerce,toInt_int,zb,zf,zi,zg,zI,arith,Cst.val,SV.den,zU,List.getD_cons_zero,List.getD_cons_succ,List.getElem?_cons_zero,List.getElem?_cons_succ,decide_eq_true_eq,decide_eq_false_iff_not,List.map_cons,List.map_nil,List.cons_append,List.nil_append]
 intro b0 hb0
 refine⟨fun us h'=>∃(i:Nat) (a:Option Addr) (c:Nat),us=[.int .u64 ((x/256^i:Nat):Int),.slice a i c,.int .i64 i]∧i≤n∧Part .u8 h' (.slice a i c) (jU x i hb)∧Eng.New h (.slice a i c)∧Eng.Sub h h',
  fun us _=>n-(toInt (us.getD 2 undef)).toNat,⟨0,some ⟨b0,0,none⟩,0,by simp,by omega,?_,New.of hb0,Sub.zC hb0⟩,?_⟩
 ·have e:jU x 0 hb=[]:=by cases hb <;> rfl
  rw[e]
  exact(Own.made (k:=.u8) (h:=h) (b:=b0) (T:=5) []).part
 rintro y a1 l1 c1 z h' ⟨i,a2,c2,hx1,hi2,P,N,s⟩
 simp only[List.cons.injEq,Value.int.injEq,Value.slice.injEq,true_and,and_true]at hx1
 obtain⟨rfl,⟨rfl,rfl,rfl⟩,rfl⟩:=hx1
 refine⟨fun hlt=>?_,fun hge=>?_⟩
 ·have hp:0<256^l1:=Nat.pow_pos (by omega)
  have hle:x/256^l1≤x:=Nat.div_le_self _ _
  have wb:IntKind.u8.wrap (((x/256^l1:Nat):Int).tmod 256)=((x/256^l1%256:Nat):Int):=by
   generalize x/256^l1=q at hle
   rw[Int.tmod_eq_emod_of_nonneg (by omega),IntKind.wrap_u8];omega
  have wd:IntKind.u64.wrap (((x/256^l1:Nat):Int).tdiv 256)=((x/256^(l1+1):Nat):Int):=by
   rw[Nat.pow_succ,←Nat.div_div_eq_div_mul]
   generalize x/256^l1=q at hle
   rw[u64_quo _ _ ⟨by omega,by omega,by omega⟩];omega
  have w2:IntKind.i64.wrap ((l1:Int)+1)=((l1+1:Nat):Int):=by rw[i64_in _ (by omega)];omega
  have hl0:(jU x l1 hb).length=l1:=jA
  rw[wb,wd,w2]
  obtain⟨a3,c3,e3,hc3,g3⟩:=P.ints
  rw[hl0]at e3
  cases e3
  have hlt2:l1<n:=by omega
  have fin:∀(v':Value) (h3:Eng.Heap),Part .u8 h3 v' (jU x (l1+1) hb)→Eng.New h v'→Eng.Sub h h3 →
    (fun(us:List Value) (h':Eng.Heap)=>∃(i:Nat) (a:Option Addr) (c:Nat),us=[.int .u64 ((x/256^i:Nat):Int),.slice a i c,.int .i64 i]∧i≤n∧Part .u8 h' (.slice a i c) (jU x i hb)∧Eng.New h (.slice a i c)∧Eng.Sub h h') [.int .u64 ((x/256^(l1+1):Nat):Int),.slice (slA v') (slL v') (slC v'),.int .i64 ((l1+1:Nat):Int)] h3 ∧
    (fun(us:List Value) (_:Eng.Heap)=>n-(toInt (us.getD 2 undef)).toNat) [.int .u64 ((x/256^(l1+1):Nat):Int),.slice (slA v') (slL v') (slC v'),.int .i64 ((l1+1:Nat):Int)] h3<(fun(us:List Value) (_:Eng.Heap)=>n-(toInt (us.getD 2 undef)).toNat) [.int .u64 ((x/256^l1:Nat):Int),.slice a1 l1 c1,.int .i64 (l1:Int)] h':=by
   intro v' h3 o n3 s4
   have el:(jU x (l1+1) hb).length=l1+1:=jA
   obtain⟨a4,c4,rfl,_,_⟩:=o.ints
   rw[el]at o n3
   simp only[zg,zf,zi,el]
   exact⟨⟨l1+1,a4,c4,rfl,by omega,o,n3,s4⟩,by simp only[List.getD_cons_succ,List.getD_cons_zero,toInt_int,Int.toNat_natCast];omega⟩
  have sb:∀b,h' b=none→Eng.Sub h' (upd h' b (.cells (ints .u8 [((x/256^l1%256:Nat):Int)]) 5)):=fun b hnb=>Sub.zC hnb
  have hb1:[((x/256^l1%256:Nat):Int)]++jU x l1 true=jU x (l1+1) true:=VN.symm
  have hb0:jU x l1 false++[((x/256^l1%256:Nat):Int)]=jU x (l1+1) false:=le_succ.symm
  generalize hz:jU x l1 hb=zs at P g3 hl0
  generalize ((x/256^l1%256:Nat):Int)=q at sb hb0 hb1 ⊢
  obtain rfl:l1=zs.length:=hl0.symm
  refine⟨fun hh b hnb=>?_,fun hh b hnb=>?_⟩
  ·subst hh
   refine zJ (xs:=[q]) hi (s.trans (sb b hnb)) (Own.made (k:=.u8) [q]).part (New.of (zN s hnb)) (ys:=zs) (g3.sub (sb b hnb)) (by simp only[List.length_singleton];omega) fun v' h3 o n3 s4 _ _=>fun _=>fin v' h3 ?_ n3 s4
   rw[hz]at hb1;rw[←hb1];exact o
  ·subst hh
   refine zJ (xs:=zs) hi (s.trans (sb b hnb)) (P.sub (sb b hnb)) N (ys:=[q]) zj.new (by simp only[List.length_singleton];omega) fun v' h3 o n3 s4 _ _=>fun _=>fin v' h3 ?_ n3 s4
   rw[hz]at hb0;rw[←hb0];exact o
 ·obtain rfl:l1=n:=by omega
  exact⟨P,N,s⟩
end Go.Proofs.YtnhbgoiihgoneaaGreatDoor
end
section
namespace Go.Proofs.YtnhbgoiihgoneaaGreatDoor
open Go Go.Eng Go.IntWalk
variable {S : Shared} {h h0 : Eng.Heap}
theorem Ku{xs:List Int}(hw:∀x∈xs,0≤x∧x≤255):(zY xs).length≤300000:=by
 unfold zY
 split
 ·simp
 ·rename_i hle
  rw[qR]
  have h1:=Mr hw
  have h2:=Dp (c:=256) (by omega)
  have h3:(xp xs).length≤3+15*xs.length+15:=by unfold xp;simp only[List.length_append,List.length_cons,List.length_nil];omega
  omega
end Go.Proofs.YtnhbgoiihgoneaaGreatDoor
end
section
namespace Go.Proofs.YtnhbgoiihgoneaaGreatDoor
open Go Go.Eng Go.IntWalk
section
variable {B : List Int} {q : Nat}
theorem tk_byte'{x:Int}(h:B[q]? = some x)(hx:0≤x∧x≤255):tk B 8 ⟨((8*q:Nat):Int),0⟩=(⟨((8*(q+1):Nat):Int),0⟩,x):=VM h hx
end
theorem fix_len'{xs:List Int}(hl:xs.length≤29)(hw:∀y∈xs,0≤y∧y≤255):(zY xs).length=((xp xs).length+7)/8∧(xp xs).length≤500∧xs.length≤(xp xs).length:=by
 have e:zY xs=pk (xp xs) (xp xs).length:=if_neg (by omega)
 have h6:=Ke hw (Nat.le_refl _)
 have hs:(xp xs).length≤3+15*xs.length+15:=by
  rw[←Hb,List.length_append]
  have:=Dp (c:=256) (by omega)
  omega
 refine⟨by rw[e];exact qR,by omega,?_⟩
 have:∀zs:List Int,(∀z∈zs,0≤z∧z≤255)→zs.length≤(zs.flatMap fun c=>yW c.toNat).length:=by
  intro zs
  induction zs with
  | nil=>intro _;simp
  | cons z r ih=>
   intro hz
   have h1:=hz z (List.mem_cons_self ..)
   obtain⟨l,b,_,h2,_,_,h5,_⟩:=O9 (c:=z.toNat) (by omega)
   have h3:=ih fun y hy=>hz y (List.mem_cons_of_mem _ hy)
   rw[List.flatMap_cons,List.length_append,h5,xb,List.length_cons];omega
 have:=this xs hw
 unfold xp
 simp only[List.length_append];omega
end Go.Proofs.YtnhbgoiihgoneaaGreatDoor
end
section
namespace Go.Proofs.YtnhbgoiihgoneaaGreatDoor
open Go Go.Eng Go.IntWalk
variable {B : List Int} {q : Nat}
theorem VP{x y z w:Int}(h:B[q]? = some x)(g:B[q+1]? = some y)(i:B[q+2]? = some z)(j:B[q+3]? = some w)(hx:0≤x∧x≤255)(hy:0≤y∧y≤255)(hz:0≤z∧z≤255)(hw:0≤w∧w≤255) :
  tk B 32 ⟨((8*q:Nat):Int),0⟩=(⟨((8*(q+4):Nat):Int),0⟩,x+256*(y+256*(z+256*w))):=by
 have hl:=(List.getElem?_eq_some_iff.1 j).1
 rw[Dt (by omega)]
 have e1:=qf h hx
 have e2:yw B (8*q+8) 8=y:=by rw[show 8*q+8=8*(q+1) by omega];exact qf g hy
 have e3:yw B (8*q+8+8) 8=z:=by rw[show 8*q+8+8=8*(q+2) by omega];exact qf i hz
 have e4:yw B (8*q+8+8+8) 8=w:=by rw[show 8*q+8+8+8=8*(q+3) by omega];exact qf j hw
 have e:yw B (8*q) 32=x+256*(y+256*(z+256*w)):=by
  rw[show(32:Nat)=8+(8+(8+8)) from rfl,Ab,Ab,Ab,e1,e2,e3,e4]
  have e8:(2:Int)^8=256:=by decide
  simp only[e8]
 rw[e,show 8*q+32=8*(q+4) by omega]
theorem RV:∀(ys:List Int) (q:Nat) (acc:List Int),(∀y∈ys,0≤y∧y≤255)→AtY B q ys→byL B ys.length ⟨((8*q:Nat):Int),0⟩ acc=(⟨((8*(q+ys.length):Nat):Int),0⟩,acc++ys)
 | [],q,acc,_,_=>by simp[byL]
 | y::ys,q,acc,hw,H=>by
  have h0:B[q]? = some y:=by have:=H 0 y rfl;simpa using this
  have e:=tk_byte' h0 (hw y (by simp))
  rw[List.length_cons,byL,if_pos rfl,e,if_pos rfl]
  have H2:AtY B (q+1) ys:=AtY.right (ys:=[y]) H
  rw[RV ys (q+1) (acc++[y]) (fun z hz=>hw z (by simp[hz])) H2]
  simp only[List.append_assoc,List.singleton_append]
  congr 3
  omega
theorem RX:∀(ys:List Int) (f q:Nat) (acc:List Int),(∀y∈ys,0<y∧y≤255)→AtY B q (ys++[0])→ys.length<f→txL B f ⟨((8*q:Nat):Int),0⟩ acc=(⟨((8*(q+ys.length+1):Nat):Int),0⟩,acc++ys)
 | [],f,q,acc,_,H,hf=>by
  obtain⟨f,rfl⟩:∃g,f=g+1:=⟨f-1,by simp at hf;omega⟩
  have h0:B[q]? = some 0:=by have:=H 0 0 rfl;simpa using this
  have e:=tk_byte' h0 (by omega)
  rw[txL,if_pos rfl,e,if_pos rfl]
  simp
 | y::ys,f,q,acc,hw,H,hf=>by
  obtain⟨f,rfl⟩:∃g,f=g+1:=⟨f-1,by simp at hf;omega⟩
  have h0:B[q]? = some y:=by have:=H 0 y rfl;simpa using this
  have hy:=hw y (by simp)
  have e:=tk_byte' h0 (by omega)
  rw[txL,if_pos rfl,e,if_neg (by show y≠0;omega)]
  have H2:AtY B (q+1) (ys++[0]):=AtY.right (ys:=[y]) H
  rw[RX ys f (q+1) (acc++[y]) (fun z hz=>hw z (by simp[hz])) H2 (by simp at hf;omega)]
  simp only[List.append_assoc,List.singleton_append,List.length_cons]
  congr 3
  omega
theorem RY{x:Nat}(hx:x<65536)(H:AtY B q (le x 2)):tk B 16 ⟨((8*q:Nat):Int),0⟩=(⟨((8*(q+2):Nat):Int),0⟩,(x:Int)):=by
 have h0:=H 0 _ (by simp[le,List.range_succ];rfl)
 have h1:=H 1 _ (by simp[le,List.range_succ];rfl)
 rw[Xo (by simpa using h0) h1 (by omega) (by omega)]
 congr 1
 omega
theorem Nf{x:Nat}(hx:x<4294967296)(H:AtY B q (le x 4)):tk B 32 ⟨((8*q:Nat):Int),0⟩=(⟨((8*(q+4):Nat):Int),0⟩,(x:Int)):=by
 have h0:=H 0 _ (by simp[le,List.range_succ];rfl)
 have h1:=H 1 _ (by simp[le,List.range_succ];rfl)
 have h2:=H 2 _ (by simp[le,List.range_succ];rfl)
 have h3:=H 3 _ (by simp[le,List.range_succ];rfl)
 rw[VP (by simpa using h0) h1 h2 h3 (by omega) (by omega) (by omega) (by omega)]
 congr 1
 omega
end Go.Proofs.YtnhbgoiihgoneaaGreatDoor
end
section
namespace Go.Proofs.YtnhbgoiihgoneaaGreatDoor
open Go Go.Eng Go.IntWalk
abbrev yE:=Int×Int×Int×Int×List Int×List Int×List Int×Int×Unit
def AY:Ty Value yE:=Uo (Ai (GR .i64) (Ai (GR .i64) (Ai (GR .i64) (Ai (GR .i64) (Ai tB (Ai tB (Ai tB (Ai (GR .i64) (Un)))))))))
theorem Du{h:Eng.Heap}{v:Value}{x:yE}(H:AY.R h v x):∃u4 u5 u6,v=.agg #[Value.int .i64 x.1,Value.int .i64 x.2.1,Value.int .i64 x.2.2.1,Value.int .i64 x.2.2.2.1,u4,u5,u6,Value.int .i64 x.2.2.2.2.2.2.2.1]∧tB.R h u4 x.2.2.2.2.1∧tB.R h u5 x.2.2.2.2.2.1∧tB.R h u6 x.2.2.2.2.2.2.1:=by
 obtain⟨_,rfl,_,_,rfl,(rfl:_=_),⟨_,_,rfl,(rfl:_=_),⟨_,_,rfl,(rfl:_=_),⟨_,_,rfl,(rfl:_=_),⟨u4,_,rfl,H4,⟨u5,_,rfl,H5,⟨u6,_,rfl,H6,⟨_,_,rfl,(rfl:_=_),⟨rfl⟩⟩⟩⟩⟩⟩⟩⟩⟩:=H
 exact⟨u4,u5,u6,rfl,H4,H5,H6⟩
theorem qn{h:Eng.Heap}{x:yE}{u4 u5 u6:Value}(H4:tB.R h u4 x.2.2.2.2.1)(H5:tB.R h u5 x.2.2.2.2.2.1)(H6:tB.R h u6 x.2.2.2.2.2.2.1):AY.R h (.agg #[Value.int .i64 x.1,Value.int .i64 x.2.1,Value.int .i64 x.2.2.1,Value.int .i64 x.2.2.2.1,u4,u5,u6,Value.int .i64 x.2.2.2.2.2.2.2.1]) x:=by
 unfold AY;simp only[UP,SG,UQ,UR];exact⟨by first | rfl | trivial,by first | rfl | trivial,by first | rfl | trivial,by first | rfl | trivial,H4,H5,H6,by first | rfl | trivial,by first | rfl | trivial⟩
variable {S : Shared} {h : Eng.Heap} {v w : Value} {x : yE}
def mE(x:yE):List Int:=x.2.2.2.2.1
def mN(x:yE):List Int:=x.2.2.2.2.2.1
def mC(x:yE):List Int:=x.2.2.2.2.2.2.1
def jM(x:yE):Prop:=DT (mE x)∧DT (mN x)∧DT (mC x)
def xD(x:yE):Prop:=
 (0≤x.1∧x.1≤31)∧(0≤x.2.1∧x.2.1≤4294967295)∧(0≤x.2.2.1∧x.2.2.1≤255)∧(0≤x.2.2.2.1∧x.2.2.2.1≤255)∧(mE x).length≤65535∧(0≤x.2.2.2.2.2.2.2.1∧x.2.2.2.2.2.2.2.1≤100000) ∧
 ((mE x).length=0∨x.1/4%2≠0)∧((mN x).length=0∨x.1/8%2≠0)∧((mC x).length=0∨x.1/16%2≠0)∧(0:Int)∉mN x∧(0:Int)∉mC x∧(mE x).length+(mN x).length+(mC x).length≤65536
instance (x:yE):Decidable (xD x):=by unfold xD;infer_instance
theorem noz{xs:List Int}{i:Nat}(h:(0:Int)∉xs.take i)(hi:i<xs.length)(hx:xs[i]≠0):(0:Int)∉xs.take (i+1):=by
 rw[List.take_add_one,List.getElem?_eq_getElem hi]
 simp only[Option.toList_some,List.mem_append,List.mem_singleton,not_or]
 exact⟨h,fun e=>hx e.symm⟩
theorem Ng(hi:Eng.Inv S h)(a:Option Addr)(c:Nat)(xs:List Int)(hx:zj h .u8 a xs)(hl:xs.length≤1048576) :
  zc Tryz.prog S qA #[.slice a xs.length c] h (fun v h'=>v=.bool (decide ((0:Int)∉xs))∧h'=h):=by
 refine Hv (vs:=[.slice a xs.length c]) ⟨rfl,trivial⟩ hi ?_
 simp only[Dk,Tr.wp,Ex.ev,coerce,toInt_int,zb,zf,zi,zg,zh,yi,zI,arith,Cst.val,SV.den,z9,zU,zp,List.getD_cons_zero,List.getD_cons_succ,List.getElem?_cons_zero,decide_eq_true_eq,decide_eq_false_iff_not,List.map_cons,List.map_nil,List.cons_append,List.nil_append,and_true]
 refine⟨fun us h'=>∃i:Nat,us=[.int .i64 i]∧i≤xs.length∧h'=h∧(0:Int)∉xs.take i,fun us _=>xs.length-(toInt (us.getD 0 undef)).toNat,⟨0,rfl,by omega,rfl,by simp⟩,?_⟩
 rintro x h' ⟨i,hx1,hi2,rfl,hz⟩
 obtain rfl:x=i:=by simpa using hx1
 refine⟨fun hlt=>?_,fun hge=>?_⟩
 ·have hi3:i<xs.length:=by omega
  obtain⟨g1,g2⟩:=hx.cell (List.getElem?_eq_getElem hi3)
  have w2:IntKind.i64.wrap ((i:Int)+1)=((i+1:Nat):Int):=by rw[i64_in _ (by omega)];omega
  refine⟨by simpa using g2,by omega,hlt,xs[i],by simpa[add_add]using g1,fun h0=>?_,fun h0=>?_⟩
  ·have h0:xs[i]=0:=by simpa using h0
   have hm:(0:Int)∈xs:=by rw[←h0];exact List.getElem_mem hi3
   rw[decide_eq_false (fun h=>h hm)]
   exact⟨rfl,rfl⟩
  ·rw[w2]
   exact⟨⟨i+1,rfl,by omega,rfl,noz hz hi3 (by simpa using h0)⟩,by simp only[List.getD_cons_zero,toInt_int];omega⟩
 ·obtain rfl:i=xs.length:=by omega
  rw[List.take_length]at hz
  simp[hz]
theorem HQ(hi:Eng.Inv S h)(a:Option Addr)(c:Nat)(xs:List Int)(hx:zj h .u8 a xs)(hl:xs.length≤1048576) :
  zc Tryz.prog S kQ #[.slice a xs.length c] h (fun v h'=>v=.bool (decide ((0:Int)∉xs))∧h'=h):=by
 refine Gl (vs:=[.slice a xs.length c]) ⟨rfl,trivial⟩ hi ?_
 simp only[CB,Tr.wp,Ex.ev,coerce,toInt_int,zb,zf,zi,zg,zh,yi,zI,arith,Cst.val,SV.den,z9,zU,zp,List.getD_cons_zero,List.getD_cons_succ,List.getElem?_cons_zero,decide_eq_true_eq,decide_eq_false_iff_not,List.map_cons,List.map_nil,List.cons_append,List.nil_append,and_true]
 refine⟨fun us h'=>∃i:Nat,us=[.int .i64 i]∧i≤xs.length∧h'=h∧(0:Int)∉xs.take i,fun us _=>xs.length-(toInt (us.getD 0 undef)).toNat,⟨0,rfl,by omega,rfl,by simp⟩,?_⟩
 rintro x h' ⟨i,hx1,hi2,rfl,hz⟩
 obtain rfl:x=i:=by simpa using hx1
 refine⟨fun hlt=>?_,fun hge=>?_⟩
 ·have hi3:i<xs.length:=by omega
  obtain⟨g1,g2⟩:=hx.cell (List.getElem?_eq_getElem hi3)
  have w2:IntKind.i64.wrap ((i:Int)+1)=((i+1:Nat):Int):=by rw[i64_in _ (by omega)];omega
  refine⟨by simpa using g2,by omega,hlt,xs[i],by simpa[add_add]using g1,fun h0=>?_,fun h0=>?_⟩
  ·have h0:xs[i]=0:=by simpa using h0
   have hm:(0:Int)∈xs:=by rw[←h0];exact List.getElem_mem hi3
   rw[decide_eq_false (fun h=>h hm)]
   exact⟨rfl,rfl⟩
  ·rw[w2]
   exact⟨⟨i+1,rfl,by omega,rfl,noz hz hi3 (by simpa using h0)⟩,by simp only[List.getD_cons_zero,toInt_int];omega⟩
 ·obtain rfl:i=xs.length:=by omega
  rw[List.take_length]at hz
  simp[hz]
theorem Nh(hi:Eng.Inv S h)(n m:Int):zc Tryz.prog S yH #[.int .i64 n,.int .i64 m] h (fun v h'=>v=.bool (decide (0≤n∧n≤m))∧h'=h):=by
 refine DO (vs:=[.int .i64 n,.int .i64 m]) ⟨rfl,rfl,trivial⟩ hi ?_
 simp only[Aw,Tr.wp,Ex.ev,coerce,toInt_int,zb,wz,zI,Cst.val,SV.den,List.getD_cons_zero,List.getD_cons_succ,decide_eq_true_eq,and_true]
 simp
theorem Xq:∀n:Nat,n<32→(Go.bits .and .i64 (n:Int) 4 != 0)=decide ((n:Int)/4%2≠0):=by decide +kernel
theorem Xr:∀n:Nat,n<32→(Go.bits .and .i64 (n:Int) 8 != 0)=decide ((n:Int)/8%2≠0):=by decide +kernel
theorem U7:∀n:Nat,n<32→(Go.bits .and .i64 (n:Int) 16 != 0)=decide ((n:Int)/16%2≠0):=by decide +kernel
theorem Ni(hi:Eng.Inv S h)(a:Option Addr)(l c:Nat)(f g:Int)(b:Nat)(hf:zd h ⟨b,0,none⟩=some (.int .i64 f)) :
  zc Tryz.prog S xz #[.slice a l c,.int .i64 g,.pointer (some ⟨b,0,none⟩)] h (fun v h'=>v=.bool (decide (l=0)||(Go.bits .and .i64 f g != 0))∧h'=h):=by
 refine DQ (vs:=[.slice a l c,.int .i64 g,.pointer (some ⟨b,0,none⟩)]) ⟨rfl,rfl,rfl,trivial⟩ hi ?_
 simp only[Ax,Tr.wp,Ex.ev,coerce,toInt_int,zb,zf,zi,zg,zh,zI,arith,Cst.val,SV.den,z9,zp,List.getD_cons_zero,List.getD_cons_succ,List.getElem?_cons_zero,List.map_cons,List.map_nil,List.cons_append,List.nil_append,and_true]
 refine⟨fun h0=>⟨f,by simpa[zm]using hf,fun _=>?_⟩,fun h0 _=>?_⟩
 ·have:¬l=0:=by simpa using h0
  simp[this]
 ·have:l=0:=by simpa using h0
  simp[this]
end Go.Proofs.YtnhbgoiihgoneaaGreatDoor
end
section
namespace Go.Proofs.YtnhbgoiihgoneaaGreatDoor
open Go Go.Eng Go.IntWalk
variable {S : Shared} {h : Eng.Heap}
theorem GC(hi:Eng.Inv S h){v:Value}{x:yE}(O:AY.R h v x)(L:jM x) :
  zc Tryz.prog S qM #[v] h (fun v h'=>v=.bool (decide (xD x))∧h'=h):=by
 obtain⟨u4,u5,u6,rfl,H4,H5,H6⟩:=Du O
 obtain⟨a4,c4,rfl,hx4⟩:=H4
 obtain⟨a5,c5,rfl,hx5⟩:=H5
 obtain⟨a6,c6,rfl,hx6⟩:=H6
 obtain⟨n0,n1,n2,n3,xs,ys,zs,n7,⟨⟩⟩:=x
 have l4:xs.length≤1048576:=L.1
 have l5:ys.length≤1048576:=L.2.1
 have l6:zs.length≤1048576:=L.2.2
 simp only at hx4 hx5 hx6
 refine EY (vs:=[.int .i64 n0,.int .i64 n1,.int .i64 n2,.int .i64 n3,.slice a4 xs.length c4,.slice a5 ys.length c5,.slice a6 zs.length c6,.int .i64 n7]) ⟨rfl,rfl,rfl,rfl,rfl,rfl,rfl,rfl,trivial⟩ hi ?_
 simp only[Bw,Tr.wp,zG,Ex.ev,coerce,toInt_int,zb,zf,zi,zg,wz,Bd,zI,arith,Cst.val,SV.den,zq,zL,zE,zo,zn,z9,List.flatMap_cons,List.flatMap_nil,List.getD_cons_zero,List.getD_cons_succ,List.getElem?_cons_zero,List.getElem?_cons_succ,decide_eq_true_eq,decide_eq_false_iff_not,List.map_cons,List.map_nil,List.cons_append,List.nil_append,List.append_nil,and_true,if_false,Bool.false_eq_true]
 refine⟨fun hbad=>?_,fun hok=>⟨fun hbad=>?_,fun hok2=>?_⟩⟩
 ·have hf:¬xD (n0,n1,n2,n3,xs,ys,zs,n7,()):=fun hv=>by
   simp at hbad
   simp only[xD]at hv
   omega
  rw[decide_eq_false hf]
  all_goals exact⟨rfl,rfl⟩
 ·have h0:0≤n0∧n0≤31:=by simp at hok;omega
  have hf:¬xD (n0,n1,n2,n3,xs,ys,zs,n7,()):=fun hv=>by
   have w1:∀k:Int,1≤k→(IntKind.i64.wrap (n0.tdiv k)).tmod 2=n0/k%2:=fun k hk=>by
    have:=tdiv_le n0 k h0.1 hk
    rw[i64_quo _ _ ⟨h0.1,by omega,hk⟩,Int.tmod_eq_emod_of_nonneg this.1]
   rw[w1 4 (by omega),w1 8 (by omega),w1 16 (by omega)]at hbad
   simp at hbad
   simp only[xD,mE,mN,mC]at hv
   omega
  rw[decide_eq_false hf]
  all_goals exact⟨rfl,rfl⟩
 ·have h0:(0≤n0∧n0≤31)∧(0≤n1∧n1≤4294967295)∧(0≤n2∧n2≤255)∧(0≤n3∧n3≤255):=by simp at hok;omega
  have h2:(xs.length=0∨n0/4%2≠0)∧(ys.length=0∨n0/8%2≠0)∧(zs.length=0∨n0/16%2≠0):=by
   have w1:∀k:Int,1≤k→(IntKind.i64.wrap (n0.tdiv k)).tmod 2=n0/k%2:=fun k hk=>by
    have:=tdiv_le n0 k h0.1.1 hk
    rw[i64_quo _ _ ⟨h0.1.1,by omega,hk⟩,Int.tmod_eq_emod_of_nonneg this.1]
   rw[w1 4 (by omega),w1 8 (by omega),w1 16 (by omega)]at hok2
   revert hok2
   generalize xs.length=A
   generalize ys.length=B
   generalize zs.length=C
   intro hok2
   simp at hok2
   omega
  have hm:xD (n0,n1,n2,n3,xs,ys,zs,n7,())↔xs.length≤65535∧(0:Int)∉ys∧(0:Int)∉zs∧xs.length+ys.length+zs.length≤65536∧0≤n7∧n7≤100000:=by
   simp only[xD,mE,mN,mC]
   obtain⟨a1,a2,a3,a4⟩:=h0
   obtain⟨b1,b2,b3⟩:=h2
   exact⟨fun⟨_,_,_,_,c1,c2,_,_,_,c3,c4,c5⟩=>⟨c1,c3,c4,c5,c2.1,c2.2⟩,fun⟨c1,c3,c4,c5,c6,c7⟩=>⟨a1,a2,a3,a4,c1,⟨c6,c7⟩,b1,b2,b3,c3,c4,c5⟩⟩
  have ww:IntKind.i64.wrap (IntKind.i64.wrap ((xs.length:Int)+ys.length)+zs.length)=xs.length+ys.length+zs.length:=by
   rw[i64_in ((xs.length:Int)+ys.length) (by omega),i64_in _ (by omega)]
  refine⟨fun g4=>?_,fun g4 _=>?_⟩
  ·refine(Ng hi a5 c5 ys hx5 l5).mono ?_
   rintro _ hq ⟨rfl,eq⟩
   rw[eq]
   refine⟨_,rfl,fun g5=>?_,fun g5 _=>?_⟩
   ·refine(Ng hi a6 c6 zs hx6 l6).mono ?_
    rintro _ hq ⟨rfl,eq⟩
    rw[eq]
    refine⟨_,rfl,fun _=>?_⟩
    have g5:(0:Int)∉ys:=by simpa using g5
    rw[ww]
    refine⟨?_,rfl⟩
    congr 1
    rw[Bool.eq_iff_iff,decide_eq_true_eq (p:=xD _),hm]
    by_cases g6:(0:Int)∈zs
    ·simp[g6]
    ·simp[g6,g5];omega
   ·have g5:(0:Int)∈ys:=by simpa using g5
    rw[decide_eq_false (fun h=>(hm.1 h).2.1 g5)]
    all_goals exact⟨rfl,rfl⟩
  ·rw[decide_eq_false (fun h=>g4 (by have:=(hm.1 h).1;omega))]
   all_goals exact⟨rfl,rfl⟩
theorem GD(hi:Eng.Inv S h){v:Value}{x:yE}(O:AY.R h v x)(L:jM x) :
  zc Tryz.prog S qK #[v] h (fun v h'=>v=.bool (decide (xD x))∧Eng.Sub h h'):=by
 obtain⟨u4,u5,u6,rfl,H4,H5,H6⟩:=Du O
 obtain⟨a4,c4,rfl,hx4⟩:=H4
 obtain⟨a5,c5,rfl,hx5⟩:=H5
 obtain⟨a6,c6,rfl,hx6⟩:=H6
 obtain⟨n0,n1,n2,n3,xs,ys,zs,n7,⟨⟩⟩:=x
 have l4:xs.length≤1048576:=L.1
 have l5:ys.length≤1048576:=L.2.1
 have l6:zs.length≤1048576:=L.2.2
 simp only at hx4 hx5 hx6
 refine EX (vs:=[.int .i64 n0,.int .i64 n1,.int .i64 n2,.int .i64 n3,.slice a4 xs.length c4,.slice a5 ys.length c5,.slice a6 zs.length c6,.int .i64 n7]) ⟨rfl,rfl,rfl,rfl,rfl,rfl,rfl,rfl,trivial⟩ hi ?_
 simp only[Bv,Tr.wp,zG,Ex.ev,coerce,toInt_int,zb,zf,zi,zg,zh,zI,arith,Cst.val,SV.den,zq,zL,zE,zo,zn,yo,z9,zp,List.flatMap_cons,List.flatMap_nil,List.replicate_one,List.getD_cons_zero,List.getD_cons_succ,List.getElem?_cons_zero,decide_eq_true_eq,decide_eq_false_iff_not,List.map_cons,List.map_nil,List.cons_append,List.nil_append,List.append_nil,and_true,if_false,Bool.false_eq_true]
 intro b hb
 obtain⟨g,hg⟩:∃g,g=upd h b (Obj.cells #[Value.int IntKind.i64 n0,Value.int IntKind.i64 n1,Value.int IntKind.i64 n2,Value.int IntKind.i64 n3,Value.slice a4 xs.length c4,Value.slice a5 ys.length c5,Value.slice a6 zs.length c6,Value.int IntKind.i64 n7] 24):=⟨_,rfl⟩
 have s:Eng.Sub h g:=by rw[hg];exact Sub.zC hb
 have f0:zd g ⟨b,0,none⟩=some (.int .i64 n0):=by rw[hg];simp[zd,upd]
 have f1:zd g ⟨b,1,none⟩=some (.int .i64 n1):=by rw[hg];simp[zd,upd]
 have f2:zd g ⟨b,2,none⟩=some (.int .i64 n2):=by rw[hg];simp[zd,upd]
 have f3:zd g ⟨b,3,none⟩=some (.int .i64 n3):=by rw[hg];simp[zd,upd]
 have f4:zd g ⟨b,4,none⟩=some (.slice a4 xs.length c4):=by rw[hg];simp[zd,upd]
 have f5:zd g ⟨b,5,none⟩=some (.slice a5 ys.length c5):=by rw[hg];simp[zd,upd]
 have f6:zd g ⟨b,6,none⟩=some (.slice a6 zs.length c6):=by rw[hg];simp[zd,upd]
 have f7:zd g ⟨b,7,none⟩=some (.int .i64 n7):=by rw[hg];simp[zd,upd]
 have gi:=hi.sub s
 rw[←hg]
 have fin:∀ {p:Prop},(xD (n0,n1,n2,n3,xs,ys,zs,n7,())→p)→¬p→(Value.bool false=Value.bool (decide (xD (n0,n1,n2,n3,xs,ys,zs,n7,())))∧Eng.Sub h g):=fun hp hn=>by
  rw[decide_eq_false (fun hv=>hn (hp hv))]
  exact⟨rfl,s⟩
 simp only[zm,Nat.add_zero,Nat.zero_add]
 refine⟨_,f0,(Nh gi n0 31).mono ?_⟩
 rintro _ hq ⟨rfl,eq⟩
 rw[eq]
 refine⟨_,rfl,fun e0=>?_,fun e0 _=>fin (fun h=>h.1) (of_decide_eq_false e0)⟩
 have e0:=of_decide_eq_true e0
 refine⟨_,f1,(Nh gi n1 4294967295).mono ?_⟩
 rintro _ hq ⟨rfl,eq⟩
 rw[eq]
 refine⟨_,rfl,fun e1=>?_,fun e1 _=>fin (fun h=>h.2.1) (of_decide_eq_false e1)⟩
 have e1:=of_decide_eq_true e1
 refine⟨_,f2,(Nh gi n2 255).mono ?_⟩
 rintro _ hq ⟨rfl,eq⟩
 rw[eq]
 refine⟨_,rfl,fun e2=>?_,fun e2 _=>fin (fun h=>h.2.2.1) (of_decide_eq_false e2)⟩
 have e2:=of_decide_eq_true e2
 refine⟨_,f3,(Nh gi n3 255).mono ?_⟩
 rintro _ hq ⟨rfl,eq⟩
 rw[eq]
 refine⟨_,rfl,fun e3=>?_,fun e3 _=>fin (fun h=>h.2.2.2.1) (of_decide_eq_false e3)⟩
 have e3:=of_decide_eq_true e3
 refine⟨_,_,_,f4,fun e4=>?_,fun e4 _=>fin (fun h=>h.2.2.2.2.1) (fun h=>e4 (by have h:xs.length≤65535:=h;omega))⟩
 refine⟨_,f7,(Nh gi n7 100000).mono ?_⟩
 rintro _ hq ⟨rfl,eq⟩
 rw[eq]
 refine⟨_,rfl,fun e5=>?_,fun e5 _=>fin (fun h=>h.2.2.2.2.2.1) (of_decide_eq_false e5)⟩
 have e5:=of_decide_eq_true e5
 have o4:(Go.bits .and .i64 n0 4 != 0)=decide (n0/4%2≠0):=by
  have:=Xq n0.toNat (by omega)
  rwa[Int.toNat_of_nonneg (by omega)]at this
 refine⟨_,_,_,f4,(Ni gi a4 xs.length c4 n0 4 b f0).mono ?_⟩
 rintro _ hq ⟨rfl,eq⟩
 rw[eq,o4,←Bool.decide_or]
 refine⟨_,rfl,fun e6=>?_,fun e6 _=>fin (fun h=>h.2.2.2.2.2.2.1) (of_decide_eq_false e6)⟩
 have e6:=of_decide_eq_true e6
 have o5:(Go.bits .and .i64 n0 8 != 0)=decide (n0/8%2≠0):=by
  have:=Xr n0.toNat (by omega)
  rwa[Int.toNat_of_nonneg (by omega)]at this
 refine⟨_,_,_,f5,(Ni gi a5 ys.length c5 n0 8 b f0).mono ?_⟩
 rintro _ hq ⟨rfl,eq⟩
 rw[eq,o5,←Bool.decide_or]
 refine⟨_,rfl,fun e7=>?_,fun e7 _=>fin (fun h=>h.2.2.2.2.2.2.2.1) (of_decide_eq_false e7)⟩
 have e7:=of_decide_eq_true e7
 have o6:(Go.bits .and .i64 n0 16 != 0)=decide (n0/16%2≠0):=by
  have:=U7 n0.toNat (by omega)
  rwa[Int.toNat_of_nonneg (by omega)]at this
 refine⟨_,_,_,f6,(Ni gi a6 zs.length c6 n0 16 b f0).mono ?_⟩
 rintro _ hq ⟨rfl,eq⟩
 rw[eq,o6,←Bool.decide_or]
 refine⟨_,rfl,fun e8=>?_,fun e8 _=>fin (fun h=>h.2.2.2.2.2.2.2.2.1) (of_decide_eq_false e8)⟩
 have e8:=of_decide_eq_true e8
 refine⟨_,_,_,f5,(HQ gi a5 c5 ys (zj.sub hx5 s) l5).mono ?_⟩
 rintro _ hq ⟨rfl,eq⟩
 rw[eq]
 refine⟨_,rfl,fun e9=>?_,fun e9 _=>fin (fun h=>h.2.2.2.2.2.2.2.2.2.1) (of_decide_eq_false e9)⟩
 have e9:=of_decide_eq_true e9
 refine⟨_,_,_,f6,(HQ gi a6 c6 zs (zj.sub hx6 s) l6).mono ?_⟩
 rintro _ hq ⟨rfl,eq⟩
 rw[eq]
 refine⟨_,rfl,fun e10=>?_,fun e10 _=>fin (fun h=>h.2.2.2.2.2.2.2.2.2.2.1) (of_decide_eq_false e10)⟩
 have e10:=of_decide_eq_true e10
 have ww:IntKind.i64.wrap (IntKind.i64.wrap ((xs.length:Int)+ys.length)+zs.length)=xs.length+ys.length+zs.length:=by
  rw[i64_in ((xs.length:Int)+ys.length) (by omega),i64_in _ (by omega)]
 refine⟨_,_,_,f4,_,_,_,f5,_,_,_,f6,fun _=>⟨?_,s⟩⟩
 rw[ww]
 congr 1
 rw[Bool.eq_iff_iff,decide_eq_true_eq (p:=xD _),decide_eq_true_eq]
 exact⟨fun hl=>⟨e0,e1,e2,e3,(by show xs.length≤65535;omega),e5,e6,e7,e8,e9,e10,(by show xs.length+ys.length+zs.length≤65536;omega)⟩,fun h=>by have h:xs.length+ys.length+zs.length≤65536:=h.2.2.2.2.2.2.2.2.2.2.2;omega⟩
end Go.Proofs.YtnhbgoiihgoneaaGreatDoor
end
section
namespace Go.Proofs.YtnhbgoiihgoneaaGreatDoor
open Go Go.Eng Go.IntWalk
variable {S : Shared} {h h0 : Eng.Heap}
def xE(xs:List Int):Nat:=(xT 0#32 xs).toNat
theorem Cf{xs:List Int}:xE xs<4294967296:=(xT 0#32 xs).isLt
def LC(xs:List Int):List Int:=zY xs++le (xE xs) 4++le xs.length 4
def jV(f:Int)(es:List Int):List Int:=if f/4%2=1 then le es.length 2++es else []
def xu(f k:Int)(es:List Int):List Int:=if f/k%2=1 then es++[0]else []
def qg(f:Int)(cur:List Int):List Int:=if f/2%2=1 then le (xE cur%65536) 2 else []
def G5(cur xs:List Int):List Int:=cur++LC xs
def G4(f:Int)(cur xs:List Int):List Int:=G5 (cur++qg f cur) xs
def G3(f:Int)(zs cur xs:List Int):List Int:=G4 f (cur++xu f 16 zs) xs
def G2(f:Int)(ys zs cur xs:List Int):List Int:=G3 f zs (cur++xu f 8 ys) xs
def G1(f:Int)(es ys zs cur xs:List Int):List Int:=G2 f ys zs (cur++jV f es) xs
def xq(x:yE):List Int:=[31,139,8,x.1]++le x.2.1.toNat 4++[x.2.2.1,x.2.2.2.1]
def zr(x:yE)(xs:List Int):List Int:=
 if xD x∧x.2.2.2.2.2.2.2.1=xs.length then G1 x.1 (mE x) (mN x) (mC x) (xq x) xs else []
def jg(x:yE):Prop:=(∀y∈mE x,0≤y∧y≤255)∧(∀y∈mN x,0≤y∧y≤255)∧(∀y∈mC x,0≤y∧y≤255)
def PG(h0:Eng.Heap)(ys:List Int)(v:Value)(h':Eng.Heap):Prop:=tB.O h' v ys∧tB.New h0 v∧Eng.Sub h0 h'
def okC(xs:List Int):Prop:=∀x∈xs,0≤x∧x≤255
theorem okC.okB{xs:List Int}(H:okC xs):∀x∈xs,0≤x∧x<256:=fun x hx=>by have:=H x hx;omega
theorem okC.app{xs ys:List Int}(H:okC xs)(G:okC ys):okC (xs++ys):=fun x hx=>by
 rcases List.mem_append.1 hx with h | h
 ·exact H x h
 ·exact G x h
theorem okC.le{x n:Nat}:okC (le x n):=fun y hy=>by have:=VO y hy;omega
theorem okC.ext{f:Int}{es:List Int}(H:okC es):okC (jV f es):=by
 unfold jV;split
 ·exact okC.le.app H
 ·intro y hy;simp at hy
theorem okC.txt{f k:Int}{es:List Int}(H:okC es):okC (xu f k es):=by
 unfold xu;split
 ·exact H.app fun y hy=>by simp at hy;omega
 ·intro y hy;simp at hy
theorem VQ{f:Int}{es:List Int}:(jV f es).length≤2+es.length:=by
 unfold jV;split <;> simp[xe]
theorem OD{f k:Int}{es:List Int}:(xu f k es).length≤1+es.length:=by
 unfold xu;split <;> simp <;> omega
theorem VR{f:Int}{es:List Int}:(qg f es).length≤2:=by
 unfold qg;split <;> simp[xe]
theorem wa(x:Nat)(hx:x<18446744073709551616):IntKind.u64.wrap (x:Int)=(x:Int):=u64_in _ (by omega)
theorem RZ(hi:Eng.Inv S h0)(s:Eng.Sub h0 h){xs cur:List Int}{a a8:Option Addr}{c c8:Nat}(O:tB.O h0 (.slice a8 xs.length c8) xs)(hw:okC xs)(L:xs.length≤100000)(P:Part .u8 h (.slice a cur.length c) cur)(N:Eng.New h0 (.slice a cur.length c))(hl:cur.length≤3000000)(K0:Kt)
  (e0 e1 e2 e3 e4 e5 e6 e7 e9 e10 e11 e12 e13 e14 e15 e16 e17:Value) :
  gs5.wp Tryz.prog S yg (PG h0 (G5 cur xs)) [e0,e1,e2,e3,e4,e5,e6,e7,.slice a8 xs.length c8,e9,e10,e11,e12,e13,e14,e15,e16,e17,.slice a cur.length c] h [K0]:=by
 simp only[gs5,Tr.wp,zG,Ex.ev,coerce,toInt_int,zf,zi,zg,Cst.val,SV.den,zq,zL,zE,zo,zn,z9,List.flatMap_cons,List.flatMap_nil,List.getD_cons_zero,List.getD_cons_succ,List.map_cons,List.map_nil,List.cons_append,List.nil_append,List.append_nil,if_false,Bool.false_eq_true]
 have fl:=Ku hw
 obtain⟨_,_,ei,_,gx⟩:=Part.ints O
 cases ei
 have LB:DT xs:=by show xs.length≤_;omega
 refine(Gu (hi.sub s) (O.sub s) hw LB).mono ?_
 rintro v1 h1 ⟨O1,N1,s1⟩
 obtain⟨a1,c1,rfl,_,g1⟩:=Part.ints O1
 refine⟨_,_,_,rfl,?_⟩
 refine zJ hi (s.trans s1) (P.sub s1) N g1 (by omega) fun v2 h2 o2 n2 s2 _ _=>?_
 obtain⟨a2,c2,rfl,_,_⟩:=o2.ints
 refine(CS (hi.sub s2) 0#32 _ _ xs (gx.sub s2) hw.okB (by omega)).mono ?_
 rintro _ h3 ⟨rfl,rfl⟩
 refine⟨_,rfl,?_⟩
 have wc:IntKind.u64.wrap ((xT 0#32 xs).toNat:Int)=((xE xs:Nat):Int):=wa _ (by have:=Cf (xs:=xs);unfold xE at this;omega)
 rw[wc]
 refine(EE (hi.sub s2) (xE xs) (by have:=Cf (xs:=xs);omega) 4 (by omega) false).mono ?_
 rintro v4 h4 ⟨O4,N4,s4⟩
 obtain⟨a4,c4,rfl,_,g4⟩:=Part.ints O4
 refine⟨_,_,_,rfl,?_⟩
 simp only[zg,zf,zi]
 refine zJ hi (s2.trans s4) (o2.sub s4) n2 g4 (by rw[jA,List.length_append];omega) fun v5 h5 o5 n5 s5 _ _=>?_
 obtain⟨a5,c5,rfl,_,_⟩:=o5.ints
 have wl:IntKind.u64.wrap (xs.length:Int)=((xs.length:Nat):Int):=wa _ (by omega)
 rw[wl]
 refine(EE (hi.sub s5) xs.length (by omega) 4 (by omega) false).mono ?_
 rintro v6 h6 ⟨O6,N6,s6⟩
 obtain⟨a6,c6,rfl,_,g6⟩:=Part.ints O6
 refine⟨_,_,_,rfl,?_⟩
 simp only[zg,zf,zi]
 refine zJ hi (s5.trans s6) (o5.sub s6) n5 g6 (by simp only[jA,List.length_append];omega) fun v7 h7 o7 n7 s7 _ _=>?_
 obtain⟨a7,c7,rfl,_,_⟩:=o7.ints
 refine⟨?_,n7,s7⟩
 have e:G5 cur xs=cur++zY xs++jU (xE xs) 4 false++jU xs.length 4 false:=by simp[G5,LC,jU]
 rw[e];exact o7
theorem PV{n k:Int}(h:0≤n∧n≤31)(hk:1≤k):(IntKind.i64.wrap (n.tdiv k)).tmod 2=n/k%2:=by
 have:=tdiv_le n k h.1 hk
 rw[i64_quo _ _ ⟨h.1,by omega,hk⟩,Int.tmod_eq_emod_of_nonneg this.1]
theorem Sa(hi:Eng.Inv S h0)(s:Eng.Sub h0 h){xs cur:List Int}{a a8:Option Addr}{c c8:Nat}(O:tB.O h0 (.slice a8 xs.length c8) xs)(hw:okC xs)(L:xs.length≤100000)(P:Part .u8 h (.slice a cur.length c) cur)(N:Eng.New h0 (.slice a cur.length c))(hl:cur.length≤2000000)(hc:okC cur)(n0:Int)(h0f:0≤n0∧n0≤31)(K0:Kt)
  (e1 e2 e3 e4 e5 e6 e7 e9 e10 e11 e12 e13 e14 e15 e16:Value) :
  gs4.wp Tryz.prog S yg (PG h0 (G4 n0 cur xs)) [.int .i64 n0,e1,e2,e3,e4,e5,e6,e7,.slice a8 xs.length c8,e9,e10,e11,e12,e13,e14,e15,e16,.slice a cur.length c] h [K0]:=by
 simp only[gs4,Tr.wp,zG,Ex.ev,coerce,toInt_int,zb,zf,zi,zg,zI,arith,Cst.val,SV.den,zq,zL,zE,zo,zn,z9,List.flatMap_cons,List.flatMap_nil,List.getD_cons_zero,List.getD_cons_succ,List.getElem?_cons_zero,List.getElem?_cons_succ,List.map_cons,List.map_nil,List.cons_append,List.nil_append,List.append_nil,if_false,Bool.false_eq_true,PV h0f (show(1:Int)≤2 by omega)]
 refine⟨fun hy=>?_,fun hn=>?_⟩
 ·have e:G4 n0 cur xs=G5 (cur++jU (xE cur%65536) 2 false) xs:=by unfold G4 qg;rw[if_pos (by simpa using hy)];rfl
  rw[e]
  obtain⟨_,_,ei,_,gc⟩:=P.ints
  cases ei
  refine(CS (hi.sub s) 0#32 _ _ cur gc hc.okB (by omega)).mono ?_
  rintro _ h3 ⟨rfl,rfl⟩
  refine⟨_,rfl,?_⟩
  have wc:IntKind.u64.wrap (((xT 0#32 cur).toNat:Int).tmod 65536)=((xE cur%65536:Nat):Int):=by
   have:=Cf (xs:=cur)
   unfold xE at this ⊢
   rw[Int.tmod_eq_emod_of_nonneg (by omega),u64_in _ (by omega)];omega
  rw[wc]
  refine(EE (hi.sub s) (xE cur%65536) (by omega) 2 (by omega) false).mono ?_
  rintro v4 h4 ⟨O4,N4,s4⟩
  obtain⟨a4,c4,rfl,_,g4⟩:=Part.ints O4
  refine⟨_,_,_,rfl,?_⟩
  refine zJ hi (s.trans s4) (P.sub s4) N g4 (by rw[jA];omega) fun v5 h5 o5 n5 s5 _ _=>?_
  obtain⟨a5,c5,rfl,_,_⟩:=o5.ints
  simp only[zg,zf,zi]
  exact fun _=>RZ hi s5 O hw L o5 n5 (by rw[List.length_append,jA];omega) K0 _ _ _ _ _ _ _ _ _ _ _ _ _ _ _ _ _
 ·have e:G4 n0 cur xs=G5 cur xs:=by unfold G4 qg;rw[if_neg (by simpa using hn),List.append_nil]
  rw[e]
  exact fun _=>RZ hi s O hw L P N (by omega) K0 _ _ _ _ _ _ _ _ _ _ _ _ _ _ _ _ _
theorem Sb(hi:Eng.Inv S h0)(s:Eng.Sub h0 h){xs zs cur:List Int}{a a8 a6:Option Addr}{c c8 c6:Nat}(O:tB.O h0 (.slice a8 xs.length c8) xs)(hw:okC xs)(L:xs.length≤100000)(gz:zj h0 .u8 a6 zs)(lz:zs.length≤100000)(hz:okC zs)(P:Part .u8 h (.slice a cur.length c) cur)(N:Eng.New h0 (.slice a cur.length c))(hl:cur.length≤1000000)(hc:okC cur)(n0:Int)(h0f:0≤n0∧n0≤31)(K0:Kt)
  (e1 e2 e3 e4 e5 e7 e9 e10 e11 e12 e13 e14 e15:Value) :
  gs3.wp Tryz.prog S yg (PG h0 (G3 n0 zs cur xs)) [.int .i64 n0,e1,e2,e3,e4,e5,.slice a6 zs.length c6,e7,.slice a8 xs.length c8,e9,e10,e11,e12,e13,e14,e15,.slice a cur.length c] h [K0]:=by
 simp only[gs3,Tr.wp,Ex.ev,coerce,toInt_int,zb,zf,zi,zg,zI,arith,Cst.val,List.getD_cons_zero,List.getD_cons_succ,List.getElem?_cons_zero,List.getElem?_cons_succ,List.map_cons,List.map_nil,List.cons_append,List.nil_append,PV h0f (show(1:Int)≤16 by omega)]
 refine⟨fun hy=>?_,fun hn=>?_⟩
 ·have e:G3 n0 zs cur xs=G4 n0 (cur++(zs++[0])) xs:=by unfold G3 xu;rw[if_pos (by simpa using hy)]
  rw[e]
  refine zJ hi s P N (gz.sub s) (by omega) fun v5 h5 o5 n5 s5 _ _=>?_
  intro b hb
  have s6:Eng.Sub h5 (upd h5 b (.cells #[.int .u8 0] 5)):=Sub.zC hb
  obtain⟨a5,c5,rfl,_,_⟩:=o5.ints
  simp only[zg,zf,zi]
  refine zJ (ys:=[0]) hi (s5.trans s6) (o5.sub s6) n5 (zj.new (xs:=[0])) (by simp only[List.length_append,List.length_singleton];omega) fun v7 h7 o7 n7 s7 _ _=>?_
  rw[List.append_assoc]at o7
  obtain⟨a7,c7,rfl,_,_⟩:=o7.ints
  exact fun _=>Sa hi s7 O hw L o7 n7 (by simp only[List.length_append,List.length_singleton];omega) (hc.app (hz.app fun y hy=>by simp at hy;omega)) n0 h0f K0 _ _ _ _ _ _ _ _ _ _ _ _ _ _ _
 ·have e:G3 n0 zs cur xs=G4 n0 cur xs:=by unfold G3 xu;rw[if_neg (by simpa using hn),List.append_nil]
  rw[e]
  exact fun _=>Sa hi s O hw L P N (by omega) hc n0 h0f K0 _ _ _ _ _ _ _ _ _ _ _ _ _ _ _
theorem Sc(hi:Eng.Inv S h0)(s:Eng.Sub h0 h){xs ys zs cur:List Int}{a a8 a6 a5:Option Addr}{c c8 c6 c5:Nat}(O:tB.O h0 (.slice a8 xs.length c8) xs)(hw:okC xs)(L:xs.length≤100000)(gy:zj h0 .u8 a5 ys)(ly:ys.length≤100000)(hy:okC ys)(gz:zj h0 .u8 a6 zs)(lz:zs.length≤100000)(hz:okC zs)(P:Part .u8 h (.slice a cur.length c) cur)(N:Eng.New h0 (.slice a cur.length c))(hl:cur.length≤500000)(hc:okC cur)(n0:Int)(h0f:0≤n0∧n0≤31)(K0:Kt)
  (e1 e2 e3 e4 e7 e9 e10 e11 e12 e13 e14:Value) :
  gs2.wp Tryz.prog S yg (PG h0 (G2 n0 ys zs cur xs)) [.int .i64 n0,e1,e2,e3,e4,.slice a5 ys.length c5,.slice a6 zs.length c6,e7,.slice a8 xs.length c8,e9,e10,e11,e12,e13,e14,.slice a cur.length c] h [K0]:=by
 simp only[gs2,Tr.wp,Ex.ev,coerce,toInt_int,zb,zf,zi,zg,zI,arith,Cst.val,List.getD_cons_zero,List.getD_cons_succ,List.getElem?_cons_zero,List.getElem?_cons_succ,List.map_cons,List.map_nil,List.cons_append,List.nil_append,PV h0f (show(1:Int)≤8 by omega)]
 refine⟨fun hyy=>?_,fun hn=>?_⟩
 ·have e:G2 n0 ys zs cur xs=G3 n0 zs (cur++(ys++[0])) xs:=by unfold G2 xu;rw[if_pos (by simpa using hyy)]
  rw[e]
  refine zJ hi s P N (gy.sub s) (by omega) fun v5 h5 o5 n5 s5 _ _=>?_
  intro b hb
  have s6:Eng.Sub h5 (upd h5 b (.cells #[.int .u8 0] 5)):=Sub.zC hb
  obtain⟨a5',c5',rfl,_,_⟩:=o5.ints
  simp only[zg,zf,zi]
  refine zJ (ys:=[0]) hi (s5.trans s6) (o5.sub s6) n5 (zj.new (xs:=[0])) (by simp only[List.length_append,List.length_singleton];omega) fun v7 h7 o7 n7 s7 _ _=>?_
  rw[List.append_assoc]at o7
  obtain⟨a7,c7,rfl,_,_⟩:=o7.ints
  exact fun _=>Sb hi s7 O hw L gz lz hz o7 n7 (by simp only[List.length_append,List.length_singleton];omega) (hc.app (hy.app fun y hy=>by simp at hy;omega)) n0 h0f K0 _ _ _ _ _ _ _ _ _ _ _ _ _
 ·have e:G2 n0 ys zs cur xs=G3 n0 zs cur xs:=by unfold G2 xu;rw[if_neg (by simpa using hn),List.append_nil]
  rw[e]
  exact fun _=>Sb hi s O hw L gz lz hz P N (by omega) hc n0 h0f K0 _ _ _ _ _ _ _ _ _ _ _ _ _
theorem Xs(hi:Eng.Inv S h0)(s:Eng.Sub h0 h){xs es ys zs cur:List Int}{a a8 a6 a5 a4:Option Addr}{c c8 c6 c5 c4:Nat}(O:tB.O h0 (.slice a8 xs.length c8) xs)(hw:okC xs)(L:xs.length≤100000)(ge:zj h0 .u8 a4 es)(le':es.length≤65535)(he:okC es)(gy:zj h0 .u8 a5 ys)(ly:ys.length≤100000)(hy:okC ys)(gz:zj h0 .u8 a6 zs)(lz:zs.length≤100000)(hz:okC zs)(P:Part .u8 h (.slice a cur.length c) cur)(N:Eng.New h0 (.slice a cur.length c))(hl:cur.length≤1000)(hc:okC cur)(n0:Int)(h0f:0≤n0∧n0≤31)(K0:Kt)
  (e1 e2 e3 e7 e9 e10 e11 e12 e13:Value) :
  gs1.wp Tryz.prog S yg (PG h0 (G1 n0 es ys zs cur xs)) [.int .i64 n0,e1,e2,e3,.slice a4 es.length c4,.slice a5 ys.length c5,.slice a6 zs.length c6,e7,.slice a8 xs.length c8,e9,e10,e11,e12,e13,.slice a cur.length c] h [K0]:=by
 simp only[gs1,Tr.wp,zG,Ex.ev,coerce,toInt_int,zb,zf,zi,zg,zI,arith,Cst.val,SV.den,zq,zL,zE,zo,zn,z9,List.flatMap_cons,List.flatMap_nil,List.getD_cons_zero,List.getD_cons_succ,List.getElem?_cons_zero,List.getElem?_cons_succ,List.map_cons,List.map_nil,List.cons_append,List.nil_append,List.append_nil,if_false,Bool.false_eq_true,PV h0f (show(1:Int)≤4 by omega)]
 refine⟨fun hyy=>?_,fun hn=>?_⟩
 ·have e:G1 n0 es ys zs cur xs=G2 n0 ys zs (cur++jU es.length 2 false++es) xs:=by unfold G1 jV;rw[if_pos (by simpa using hyy),←List.append_assoc];rfl
  rw[e]
  rw[wa es.length (by omega)]
  refine(EE (hi.sub s) es.length (by omega) 2 (by omega) false).mono ?_
  rintro v4 h4 ⟨O4,N4,s4⟩
  obtain⟨a4',c4',rfl,_,g4⟩:=Part.ints O4
  refine⟨_,_,_,rfl,?_⟩
  refine zJ hi (s.trans s4) (P.sub s4) N g4 (by rw[jA];omega) fun v5 h5 o5 n5 s5 _ _=>?_
  obtain⟨a5',c5',rfl,_,_⟩:=o5.ints
  simp only[zg,zf,zi]
  refine zJ hi s5 o5 n5 (ge.sub s5) (by simp only[List.length_append,jA];omega) fun v7 h7 o7 n7 s7 _ _=>?_
  obtain⟨a7,c7,rfl,_,_⟩:=o7.ints
  exact fun _=>Sc hi s7 O hw L gy ly hy gz lz hz o7 n7 (by simp only[List.length_append,jA];omega) ((hc.app okC.le).app he) n0 h0f K0 _ _ _ _ _ _ _ _ _ _ _
 ·have e:G1 n0 es ys zs cur xs=G2 n0 ys zs cur xs:=by unfold G1 jV;rw[if_neg (by simpa using hn),List.append_nil]
  rw[e]
  exact fun _=>Sc hi s O hw L gy ly hy gz lz hz P N (by omega) hc n0 h0f K0 _ _ _ _ _ _ _ _ _ _ _
theorem ki(hi:Eng.Inv S h){v u:Value}{x:yE}{xs:List Int}(O:AY.R h v x)(hwm:jg x)(LM:jM x)(O2:tB.O h u xs)(hw:okC xs)(L:DT xs) :
  zc Tryz.prog S xC #[v,u] h (fun v h'=>tB.O h' v (zr x xs)∧tB.New h v∧Eng.Sub h h'):=by
 have OM:=O
 obtain⟨u4,u5,u6,rfl,H4,H5,H6⟩:=Du O
 obtain⟨a4,c4,rfl,hx4⟩:=H4
 obtain⟨a5,c5,rfl,hx5⟩:=H5
 obtain⟨a6,c6,rfl,hx6⟩:=H6
 obtain⟨n0,n1,n2,n3,es,ys,zs,n7,⟨⟩⟩:=x
 have l4:es.length≤1048576:=LM.1
 have l5:ys.length≤1048576:=LM.2.1
 have l6:zs.length≤1048576:=LM.2.2
 simp only at hx4 hx5 hx6
 obtain⟨a8,c8,rfl,hc8,hx8⟩:=Part.ints O2
 refine FC (vs:=[.int .i64 n0,.int .i64 n1,.int .i64 n2,.int .i64 n3,.slice a4 es.length c4,.slice a5 ys.length c5,.slice a6 zs.length c6,.int .i64 n7,.slice a8 xs.length c8]) ⟨rfl,rfl,rfl,rfl,rfl,rfl,rfl,rfl,rfl,trivial⟩ hi ?_
 simp only[BL,Tr.wp,zG,Ex.ev,coerce,toInt_int,zb,zf,zi,zg,Bd,zI,Cst.val,SV.den,zq,zL,zE,zo,zn,z9,List.flatMap_cons,List.flatMap_nil,List.getD_cons_zero,List.getD_cons_succ,List.map_cons,List.map_nil,List.cons_append,List.nil_append,List.append_nil,if_false,Bool.false_eq_true]
 refine(GC hi OM LM).mono ?_
 rintro _ hq ⟨rfl,eq⟩
 rw[eq]
 refine⟨_,rfl,fun hbad b hb=>?_,fun hok b hb=>?_⟩
 ·have e:zr (n0,n1,n2,n3,es,ys,zs,n7,()) xs=[]:=if_neg fun hh=>by
   rw[decide_eq_true hh.1]at hbad
   have h2:n7=(xs.length:Int):=hh.2
   simp only[Bool.not_true,Bool.or_eq_true,bne_iff_ne,Bool.false_eq_true]at hbad
   first | exact hbad h2 | (simp at hbad;exact hbad h2)
  rw[e]
  exact⟨(Own.made (k:=.u8) (h:=h) (b:=b) (T:=5) []).part,New.of hb,Sub.zC hb⟩
 ·have hv:xD (n0,n1,n2,n3,es,ys,zs,n7,())∧n7=xs.length:=by
   by_cases hv:xD (n0,n1,n2,n3,es,ys,zs,n7,())
   ·rw[decide_eq_true hv]at hok;simp at hok;exact⟨hv,hok⟩
   ·rw[decide_eq_false hv]at hok;simp at hok
  have e:zr (n0,n1,n2,n3,es,ys,zs,n7,()) xs=G1 n0 es ys zs (xq (n0,n1,n2,n3,es,ys,zs,n7,())) xs:=if_pos hv
  rw[e]
  obtain⟨⟨f0,f1⟩,⟨t0,t1⟩,⟨x0,x1⟩,⟨o0,o1⟩,le',⟨m0,m1⟩,_,_,_,_,_,lsum⟩:=hv.1
  have h7:=hv.2
  simp only[mE,mN,mC]at le' lsum
  simp only at f0 f1 t0 t1 x0 x1 o0 o1 m0 m1
  obtain⟨tn,rfl⟩:=Int.eq_ofNat_of_zero_le t0
  have w0:IntKind.u8.wrap n0=n0:=by rw[IntKind.wrap_u8];omega
  have w2:IntKind.u8.wrap n2=n2:=by rw[IntKind.wrap_u8];omega
  have w3:IntKind.u8.wrap n3=n3:=by rw[IntKind.wrap_u8];omega
  rw[w0,w2,w3,wa tn (by omega)]
  have s0:Eng.Sub h (upd h b (.cells (ints .u8 [31,139,8,n0]) 5)):=Sub.zC hb
  refine(EE (hi.sub s0) tn (by omega) 4 (by omega) false).mono ?_
  rintro v4 h4 ⟨O4,N4,s4⟩
  obtain⟨a4',c4',rfl,_,g4⟩:=Part.ints O4
  refine⟨_,_,_,rfl,?_⟩
  refine zJ (xs:=[31,139,8,n0]) hi (s0.trans s4) ((Own.made (k:=.u8) (h:=h) (b:=b) (T:=5) [31,139,8,n0]).part.sub s4) (New.of hb) g4 (by rw[jA];simp) fun v5 h5 o5 n5 s5 _ _=>?_
  obtain⟨a5',c5',rfl,_,_⟩:=o5.ints
  simp only[zg,zf,zi]
  intro b2 hb2
  have s6:Eng.Sub h5 (upd h5 b2 (.cells (ints .u8 [n2,n3]) 5)):=Sub.zC hb2
  refine zJ (ys:=[n2,n3]) hi (s5.trans s6) (o5.sub s6) n5 (zj.new (xs:=[n2,n3])) (by simp[jA]) fun v7 h7' o7 n7' s7 _ _=>?_
  obtain⟨a7,c7,rfl,_,_⟩:=o7.ints
  have eh:[31,139,8,n0]++jU tn 4 false++[n2,n3]=xq (n0,(tn:Int),n2,n3,es,ys,zs,n7,()):=by simp[xq,jU]
  have lh:(xq (n0,(tn:Int),n2,n3,es,ys,zs,n7,())).length=10:=by simp[xq,xe]
  rw[eh]at o7 n7' ⊢
  exact Xs hi s7 O2 hw (by omega) hx4 le' hwm.1 hx5 (by omega) hwm.2.1 hx6 (by omega) hwm.2.2 o7 n7' (by omega) (fun y hy=>by
   simp only[xq]at hy
   rcases List.mem_append.1 hy with hy | hy
   ·rcases List.mem_append.1 hy with hy | hy
    ·simp at hy;omega
    ·have:=okC.le y hy;omega
   ·simp at hy;omega) n0 ⟨f0,f1⟩ _ _ _ _ _ _ _ _ _ _
end Go.Proofs.YtnhbgoiihgoneaaGreatDoor
end
section
namespace Go.Proofs.YtnhbgoiihgoneaaGreatDoor
open Go Go.Eng Go.IntWalk
variable {S : Shared} {h h0 : Eng.Heap}
theorem Sd(x k:Nat)(hk:k≤64):Int.fdiv (x:Int) (2^(min (k:Int).toNat IntKind.u64.bits))=((x/2^k:Nat):Int):=by
 have e:min (k:Int).toNat IntKind.u64.bits=k:=by show min (k:Int).toNat 64=k;omega
 rw[e,Int.fdiv_eq_ediv_of_nonneg _ (by exact_mod_cast Nat.zero_le _)];push_cast;rfl
theorem VS(x:Nat):Int.fdiv (x:Int) (2^(min (Int.toNat 8) IntKind.u64.bits))=((x/256:Nat):Int):=Sd x 8 (by omega)
theorem kC(hi:Eng.Inv S h0)(hs:Eng.Sub h0 h){a:Option Addr}{c:Nat}{xs:List Int}(P:Part .u8 h (.slice a xs.length c) xs)(N:Eng.New h0 (.slice a xs.length c))(x:Nat)(n:Nat)(hn:n≤8)(hl:xs.length≤3000000) :
  zc Tryz.prog S yQ #[.slice a xs.length c,.int .u64 x,.int .i64 n] h (fun v h'=>Part .u8 h' v (xs++le x n)∧Eng.New h0 v∧Eng.Sub h0 h'):=by
 refine Ev (vs:=[.slice a xs.length c,.int .u64 x,.int .i64 n]) ⟨rfl,rfl,rfl,trivial⟩ (hi.sub hs) ?_
 simp only[AJ,Tr.wp,Ex.ev,coerce,toInt_int,zb,zf,zi,zg,zI,arith,Cst.val,SV.den,zU,List.getD_cons_zero,List.getD_cons_succ,List.getElem?_cons_zero,decide_eq_true_eq,decide_eq_false_iff_not,List.map_cons,List.map_nil,List.cons_append,List.nil_append]
 refine⟨fun us h'=>∃(i:Nat) (a:Option Addr) (c:Nat),us=[.slice a (xs++le x i).length c,.int .u64 ((x/256^i:Nat):Int),.int .i64 i]∧i≤n∧Part .u8 h' (.slice a (xs++le x i).length c) (xs++le x i)∧Eng.New h0 (.slice a (xs++le x i).length c)∧Eng.Sub h0 h',
  fun us _=>n-(toInt (us.getD 2 undef)).toNat,⟨0,a,c,by simp[le],by omega,by simpa[le]using P,by simpa[le]using N,hs⟩,?_⟩
 rintro a1 l1 c1 y z h' ⟨i,a2,c2,hx1,hi2,P,N,s⟩
 simp only[List.cons.injEq,Value.int.injEq,Value.slice.injEq,true_and,and_true]at hx1
 obtain⟨⟨rfl,rfl,rfl⟩,rfl,rfl⟩:=hx1
 refine⟨fun hlt=>?_,fun hge=>?_⟩
 ·have wb:IntKind.u8.wrap ((x/256^i:Nat):Int)=((x/256^i%256:Nat):Int):=by
   generalize x/256^i=q
   rw[IntKind.wrap_u8];omega
  have wd:((x/256^i/256:Nat):Int)=((x/256^(i+1):Nat):Int):=by rw[Nat.pow_succ,←Nat.div_div_eq_div_mul]
  have w2:IntKind.i64.wrap ((i:Int)+1)=((i+1:Nat):Int):=by rw[i64_in _ (by omega)];omega
  have hlt2:i<n:=by omega
  rw[VS,wb,wd,w2]
  intro b hnb
  have sb:Eng.Sub h' (upd h' b (.cells (ints .u8 [((x/256^i%256:Nat):Int)]) 5)):=Sub.zC hnb
  refine zJ hi (s.trans sb) (P.sub sb) N (ys:=[((x/256^i%256:Nat):Int)]) (zj.new) (by simp only[List.length_singleton,List.length_append,xe];omega) fun v' h3 o n3 s4 _ _=>?_
  rw[List.append_assoc,←le_succ]at o
  obtain⟨a4,c4,rfl,_,_⟩:=o.ints
  simp only[zg,zf,zi]
  exact⟨⟨i+1,a4,c4,rfl,by omega,o,n3,s4⟩,by simp only[List.getD_cons_succ,List.getD_cons_zero,toInt_int,Int.toNat_natCast];omega⟩
 ·obtain rfl:i=n:=by omega
  exact⟨P,N,s⟩
variable {s0 : Nat → Prop}
theorem Se(hi:Eng.Inv (zW Tryz.prog s0) h0)(s:Eng.Sub h0 h){xs cur:List Int}{a a8:Option Addr}{c c8:Nat}(O:tB.O h0 (.slice a8 xs.length c8) xs)(hw:okC xs)(L:xs.length≤100000)(P:Part .u8 h (.slice a cur.length c) cur)(N:Eng.New h0 (.slice a cur.length c))(hl:cur.length≤2000000)(K0:Kt)
  (e0 e1 e2 e3 e4 e5 e6 e7 e9 e10 e11 e12 e13 e14 e15 e16:Value) :
  gi5.wp Tryz.prog (zW Tryz.prog s0) yg (PG h0 (G5 cur xs)) [e0,e1,e2,e3,e4,e5,e6,e7,.slice a8 xs.length c8,e9,e10,e11,e12,e13,e14,e15,e16,.slice a cur.length c] h [K0]:=by
 simp only[gi5,Tr.wp,zG,Ex.ev,coerce,toInt_int,zf,zi,zg,Cst.val,SV.den,zq,zL,zE,zo,zn,z9,List.flatMap_cons,List.flatMap_nil,List.getD_cons_zero,List.getD_cons_succ,List.map_cons,List.map_nil,List.cons_append,List.nil_append,List.append_nil,if_false,Bool.false_eq_true]
 have fl:=Ku hw
 obtain⟨_,_,ei,hcx,gx⟩:=Part.ints O
 cases ei
 have LB:DT xs:=by show xs.length≤_;omega
 refine(Gv (hi.sub s) (O.sub s) hw LB).mono ?_
 rintro v1 h1 ⟨O1,N1,s1⟩
 obtain⟨a1,c1,rfl,_,g1⟩:=Part.ints O1
 refine⟨_,_,_,rfl,?_⟩
 refine zJ hi (s.trans s1) (P.sub s1) N g1 (by omega) fun v2 h2 o2 n2 s2 _ _=>?_
 obtain⟨a2,c2,rfl,_,_⟩:=o2.ints
 refine(qe (hi.sub s2) 0#32 _ _ xs hw.okB (gx.sub s2) hcx (by omega)).mono ?_
 rintro _ h3 ⟨rfl,s3⟩
 refine⟨_,rfl,?_⟩
 have wc:IntKind.u64.wrap ((xT 0#32 xs).toNat:Int)=((xE xs:Nat):Int):=wa _ (by have:=Cf (xs:=xs);unfold xE at this;omega)
 rw[wc]
 simp only[zg,zf,zi]
 refine(kC hi (s2.trans s3) (o2.sub s3) n2 (xE xs) 4 (by omega) (by rw[List.length_append];omega)).mono ?_
 rintro v4 h4 ⟨O4,N4,s4⟩
 obtain⟨a4,c4,rfl,_,g4⟩:=Part.ints O4
 refine⟨_,_,_,rfl,?_⟩
 have wl:IntKind.u64.wrap (xs.length:Int)=((xs.length:Nat):Int):=wa _ (by omega)
 rw[wl]
 refine(kC hi s4 O4 N4 xs.length 4 (by omega) (by simp only[List.length_append,xe];omega)).mono ?_
 rintro v6 h6 ⟨O6,N6,s6⟩
 obtain⟨a6,c6,rfl,_,g6⟩:=Part.ints O6
 refine⟨_,_,_,rfl,?_⟩
 refine⟨?_,N6,s6⟩
 have e:G5 cur xs=cur++zY xs++le (xE xs) 4++le xs.length 4:=by simp[G5,LC]
 rw[e];exact O6
theorem YD:∀n:Nat,n<32→(Go.bits .and .i64 (n:Int) 2 != 0)=decide ((n:Int)/2%2≠0):=by decide +kernel
theorem LD(k:Int)(hk:k=2∨k=4∨k=8∨k=16){n:Int}(h:0≤n∧n≤31):(Go.bits .and .i64 n k != 0)=decide (n/k%2=1):=by
 obtain⟨m,rfl⟩:=Int.eq_ofNat_of_zero_le h.1
 have e:∀k:Int,(decide ((m:Int)/k%2≠0))=decide ((m:Int)/k%2=1):=fun k=>by
  generalize (m:Int)/k=q
  rw[decide_eq_decide];omega
 rw[←e]
 rcases hk with rfl | rfl | rfl | rfl
 ·exact YD m (by omega)
 ·exact Xq m (by omega)
 ·exact Xr m (by omega)
 ·exact U7 m (by omega)
theorem Xt{x:Nat}:le x 2=le (x%65536) 2:=by simp[le,List.range_succ];omega
theorem Sf(hi:Eng.Inv (zW Tryz.prog s0) h0)(s:Eng.Sub h0 h){xs cur:List Int}{a a8:Option Addr}{c c8:Nat}(O:tB.O h0 (.slice a8 xs.length c8) xs)(hw:okC xs)(L:xs.length≤100000)(P:Part .u8 h (.slice a cur.length c) cur)(N:Eng.New h0 (.slice a cur.length c))(hl:cur.length≤1500000)(hc:okC cur)(n0:Int)(h0f:0≤n0∧n0≤31)(K0:Kt)
  (e1 e2 e3 e4 e5 e6 e7 e9 e10 e11 e12 e13 e14 e15:Value) :
  gi4.wp Tryz.prog (zW Tryz.prog s0) yg (PG h0 (G4 n0 cur xs)) [.int .i64 n0,e1,e2,e3,e4,e5,e6,e7,.slice a8 xs.length c8,e9,e10,e11,e12,e13,e14,e15,.slice a cur.length c] h [K0]:=by
 simp only[gi4,Tr.wp,zG,Ex.ev,coerce,toInt_int,zb,zf,zi,zg,zI,arith,Cst.val,SV.den,zq,zL,zE,zo,zn,z9,List.flatMap_cons,List.flatMap_nil,List.getD_cons_zero,List.getD_cons_succ,List.getElem?_cons_zero,List.getElem?_cons_succ,decide_eq_true_eq,decide_eq_false_iff_not,List.map_cons,List.map_nil,List.cons_append,List.nil_append,List.append_nil,if_false,Bool.false_eq_true,LD 2 (.inl rfl) h0f]
 refine⟨fun hy=>?_,fun hn=>?_⟩
 ·have e:G4 n0 cur xs=G5 (cur++le (xE cur) 2) xs:=by unfold G4 qg;rw[if_pos (by simpa using hy),←Xt]
  rw[e]
  obtain⟨_,_,ei,hcc,gc⟩:=P.ints
  cases ei
  refine(qe (hi.sub s) 0#32 _ _ cur hc.okB gc hcc (by omega)).mono ?_
  rintro _ h3 ⟨rfl,s3⟩
  refine⟨_,rfl,?_⟩
  have wc:IntKind.u64.wrap ((xT 0#32 cur).toNat:Int)=((xE cur:Nat):Int):=wa _ (by have:=Cf (xs:=cur);unfold xE at this;omega)
  rw[wc]
  refine(kC hi (s.trans s3) (P.sub s3) N (xE cur) 2 (by omega) (by omega)).mono ?_
  rintro v4 h4 ⟨O4,N4,s4⟩
  obtain⟨a4,c4,rfl,_,g4⟩:=Part.ints O4
  refine⟨_,_,_,rfl,?_⟩
  exact fun _=>Se hi s4 O hw L O4 N4 (by rw[List.length_append,xe];omega) K0 _ _ _ _ _ _ _ _ _ _ _ _ _ _ _ _
 ·have e:G4 n0 cur xs=G5 cur xs:=by unfold G4 qg;rw[if_neg (by simpa using hn),List.append_nil]
  rw[e]
  exact fun _=>Se hi s O hw L P N (by omega) K0 _ _ _ _ _ _ _ _ _ _ _ _ _ _ _ _
theorem Sg(hi:Eng.Inv (zW Tryz.prog s0) h0)(s:Eng.Sub h0 h){xs zs cur:List Int}{a a8 a6:Option Addr}{c c8 c6:Nat}(O:tB.O h0 (.slice a8 xs.length c8) xs)(hw:okC xs)(L:xs.length≤100000)(gz:zj h0 .u8 a6 zs)(lz:zs.length≤100000)(hz:okC zs)(P:Part .u8 h (.slice a cur.length c) cur)(N:Eng.New h0 (.slice a cur.length c))(hl:cur.length≤1000000)(hc:okC cur)(n0:Int)(h0f:0≤n0∧n0≤31)(K0:Kt)
  (e1 e2 e3 e4 e5 e7 e9 e10 e11 e12 e13 e14:Value) :
  gi3.wp Tryz.prog (zW Tryz.prog s0) yg (PG h0 (G3 n0 zs cur xs)) [.int .i64 n0,e1,e2,e3,e4,e5,.slice a6 zs.length c6,e7,.slice a8 xs.length c8,e9,e10,e11,e12,e13,e14,.slice a cur.length c] h [K0]:=by
 simp only[gi3,Tr.wp,Ex.ev,coerce,toInt_int,zb,zf,zi,zg,zI,arith,Cst.val,List.getD_cons_zero,List.getD_cons_succ,List.getElem?_cons_zero,List.getElem?_cons_succ,decide_eq_true_eq,decide_eq_false_iff_not,List.map_cons,List.map_nil,List.cons_append,List.nil_append,LD 16 (.inr (.inr (.inr rfl))) h0f]
 refine⟨fun hy=>?_,fun hn=>?_⟩
 ·have e:G3 n0 zs cur xs=G4 n0 (cur++(zs++[0])) xs:=by unfold G3 xu;rw[if_pos (by simpa using hy)]
  rw[e]
  refine zJ hi s P N (gz.sub s) (by omega) fun v5 h5 o5 n5 s5 _ _=>?_
  intro b hb
  have s6:Eng.Sub h5 (upd h5 b (.cells #[.int .u8 0] 5)):=Sub.zC hb
  obtain⟨a5,c5,rfl,_,_⟩:=o5.ints
  simp only[zg,zf,zi]
  refine zJ (ys:=[0]) hi (s5.trans s6) (o5.sub s6) n5 (zj.new (xs:=[0])) (by simp only[List.length_append,List.length_singleton];omega) fun v7 h7 o7 n7 s7 _ _=>?_
  rw[List.append_assoc]at o7
  obtain⟨a7,c7,rfl,_,_⟩:=o7.ints
  exact fun _=>Sf hi s7 O hw L o7 n7 (by simp only[List.length_append,List.length_singleton];omega) (hc.app (hz.app fun y hy=>by simp at hy;omega)) n0 h0f K0 _ _ _ _ _ _ _ _ _ _ _ _ _ _
 ·have e:G3 n0 zs cur xs=G4 n0 cur xs:=by unfold G3 xu;rw[if_neg (by simpa using hn),List.append_nil]
  rw[e]
  exact fun _=>Sf hi s O hw L P N (by omega) hc n0 h0f K0 _ _ _ _ _ _ _ _ _ _ _ _ _ _
theorem Si(hi:Eng.Inv (zW Tryz.prog s0) h0)(s:Eng.Sub h0 h){xs ys zs cur:List Int}{a a8 a6 a5:Option Addr}{c c8 c6 c5:Nat}(O:tB.O h0 (.slice a8 xs.length c8) xs)(hw:okC xs)(L:xs.length≤100000)(gy:zj h0 .u8 a5 ys)(ly:ys.length≤100000)(hy:okC ys)(gz:zj h0 .u8 a6 zs)(lz:zs.length≤100000)(hz:okC zs)(P:Part .u8 h (.slice a cur.length c) cur)(N:Eng.New h0 (.slice a cur.length c))(hl:cur.length≤500000)(hc:okC cur)(n0:Int)(h0f:0≤n0∧n0≤31)(K0:Kt)
  (e1 e2 e3 e4 e7 e9 e10 e11 e12 e13:Value) :
  gi2.wp Tryz.prog (zW Tryz.prog s0) yg (PG h0 (G2 n0 ys zs cur xs)) [.int .i64 n0,e1,e2,e3,e4,.slice a5 ys.length c5,.slice a6 zs.length c6,e7,.slice a8 xs.length c8,e9,e10,e11,e12,e13,.slice a cur.length c] h [K0]:=by
 simp only[gi2,Tr.wp,Ex.ev,coerce,toInt_int,zb,zf,zi,zg,zI,arith,Cst.val,List.getD_cons_zero,List.getD_cons_succ,List.getElem?_cons_zero,List.getElem?_cons_succ,decide_eq_true_eq,decide_eq_false_iff_not,List.map_cons,List.map_nil,List.cons_append,List.nil_append,LD 8 (.inr (.inr (.inl rfl))) h0f]
 refine⟨fun hyy=>?_,fun hn=>?_⟩
 ·have e:G2 n0 ys zs cur xs=G3 n0 zs (cur++(ys++[0])) xs:=by unfold G2 xu;rw[if_pos (by simpa using hyy)]
  rw[e]
  refine zJ hi s P N (gy.sub s) (by omega) fun v5 h5 o5 n5 s5 _ _=>?_
  intro b hb
  have s6:Eng.Sub h5 (upd h5 b (.cells #[.int .u8 0] 5)):=Sub.zC hb
  obtain⟨a5',c5',rfl,_,_⟩:=o5.ints
  simp only[zg,zf,zi]
  refine zJ (ys:=[0]) hi (s5.trans s6) (o5.sub s6) n5 (zj.new (xs:=[0])) (by simp only[List.length_append,List.length_singleton];omega) fun v7 h7 o7 n7 s7 _ _=>?_
  rw[List.append_assoc]at o7
  obtain⟨a7,c7,rfl,_,_⟩:=o7.ints
  exact fun _=>Sg hi s7 O hw L gz lz hz o7 n7 (by simp only[List.length_append,List.length_singleton];omega) (hc.app (hy.app fun y hy=>by simp at hy;omega)) n0 h0f K0 _ _ _ _ _ _ _ _ _ _ _ _
 ·have e:G2 n0 ys zs cur xs=G3 n0 zs cur xs:=by unfold G2 xu;rw[if_neg (by simpa using hn),List.append_nil]
  rw[e]
  exact fun _=>Sg hi s O hw L gz lz hz P N (by omega) hc n0 h0f K0 _ _ _ _ _ _ _ _ _ _ _ _
theorem Xu(hi:Eng.Inv (zW Tryz.prog s0) h0)(s:Eng.Sub h0 h){xs es ys zs cur:List Int}{a a8 a6 a5 a4:Option Addr}{c c8 c6 c5 c4:Nat}(O:tB.O h0 (.slice a8 xs.length c8) xs)(hw:okC xs)(L:xs.length≤100000)(ge:zj h0 .u8 a4 es)(le':es.length≤65535)(he:okC es)(gy:zj h0 .u8 a5 ys)(ly:ys.length≤100000)(hy:okC ys)(gz:zj h0 .u8 a6 zs)(lz:zs.length≤100000)(hz:okC zs)(P:Part .u8 h (.slice a cur.length c) cur)(N:Eng.New h0 (.slice a cur.length c))(hl:cur.length≤1000)(hc:okC cur)(n0:Int)(h0f:0≤n0∧n0≤31)(K0:Kt)
  (e1 e2 e3 e7 e9 e10 e11 e12:Value) :
  gi1.wp Tryz.prog (zW Tryz.prog s0) yg (PG h0 (G1 n0 es ys zs cur xs)) [.int .i64 n0,e1,e2,e3,.slice a4 es.length c4,.slice a5 ys.length c5,.slice a6 zs.length c6,e7,.slice a8 xs.length c8,e9,e10,e11,e12,.slice a cur.length c] h [K0]:=by
 simp only[gi1,Tr.wp,zG,Ex.ev,coerce,toInt_int,zb,zf,zi,zg,zI,arith,Cst.val,SV.den,zq,zL,zE,zo,zn,z9,List.flatMap_cons,List.flatMap_nil,List.getD_cons_zero,List.getD_cons_succ,List.getElem?_cons_zero,List.getElem?_cons_succ,decide_eq_true_eq,decide_eq_false_iff_not,List.map_cons,List.map_nil,List.cons_append,List.nil_append,List.append_nil,if_false,Bool.false_eq_true,LD 4 (.inr (.inl rfl)) h0f]
 refine⟨fun hyy=>?_,fun hn=>?_⟩
 ·have e:G1 n0 es ys zs cur xs=G2 n0 ys zs (cur++le es.length 2++es) xs:=by unfold G1 jV;rw[if_pos (by simpa using hyy),←List.append_assoc]
  rw[e]
  rw[wa es.length (by omega)]
  refine(kC hi s P N es.length 2 (by omega) (by omega)).mono ?_
  rintro v5 h5 ⟨o5,n5,s5⟩
  obtain⟨a5',c5',rfl,_,_⟩:=o5.ints
  refine⟨_,_,_,rfl,?_⟩
  refine zJ hi s5 o5 n5 (ge.sub s5) (by simp only[List.length_append,xe];omega) fun v7 h7 o7 n7 s7 _ _=>?_
  obtain⟨a7,c7,rfl,_,_⟩:=o7.ints
  exact fun _=>Si hi s7 O hw L gy ly hy gz lz hz o7 n7 (by simp only[List.length_append,xe];omega) ((hc.app okC.le).app he) n0 h0f K0 _ _ _ _ _ _ _ _ _ _
 ·have e:G1 n0 es ys zs cur xs=G2 n0 ys zs cur xs:=by unfold G1 jV;rw[if_neg (by simpa using hn),List.append_nil]
  rw[e]
  exact fun _=>Si hi s O hw L gy ly hy gz lz hz P N (by omega) hc n0 h0f K0 _ _ _ _ _ _ _ _ _ _
theorem BM(hi:Eng.Inv (zW Tryz.prog s0) h){v u:Value}{x:yE}{xs:List Int}(O:AY.R h v x)(hwm:jg x)(LM:jM x)(O2:tB.O h u xs)(hw:okC xs)(L:DT xs) :
  zc Tryz.prog (zW Tryz.prog s0) jZ #[v,u] h (fun v h'=>tB.O h' v (zr x xs)∧tB.New h v∧Eng.Sub h h'):=by
 have OM:=O
 obtain⟨u4,u5,u6,rfl,H4,H5,H6⟩:=Du O
 obtain⟨a4,c4,rfl,hx4⟩:=H4
 obtain⟨a5,c5,rfl,hx5⟩:=H5
 obtain⟨a6,c6,rfl,hx6⟩:=H6
 obtain⟨n0,n1,n2,n3,es,ys,zs,n7,⟨⟩⟩:=x
 have l4:es.length≤1048576:=LM.1
 have l5:ys.length≤1048576:=LM.2.1
 have l6:zs.length≤1048576:=LM.2.2
 simp only at hx4 hx5 hx6
 obtain⟨a8,c8,rfl,hc8,hx8⟩:=Part.ints O2
 refine FB (vs:=[.int .i64 n0,.int .i64 n1,.int .i64 n2,.int .i64 n3,.slice a4 es.length c4,.slice a5 ys.length c5,.slice a6 zs.length c6,.int .i64 n7,.slice a8 xs.length c8]) ⟨rfl,rfl,rfl,rfl,rfl,rfl,rfl,rfl,rfl,trivial⟩ hi ?_
 simp only[BK,Tr.wp,zG,Ex.ev,coerce,toInt_int,zb,zf,zi,zg,Bd,zI,Cst.val,SV.den,zq,zL,zE,zo,zn,z9,List.flatMap_cons,List.flatMap_nil,List.getD_cons_zero,List.getD_cons_succ,List.map_cons,List.map_nil,List.cons_append,List.nil_append,List.append_nil,if_false,Bool.false_eq_true]
 refine(GD hi OM LM).mono ?_
 rintro _ h1 ⟨rfl,s1⟩
 refine⟨_,rfl,fun hbad b hb=>?_,fun hok b hb=>?_⟩
 ·have e:zr (n0,n1,n2,n3,es,ys,zs,n7,()) xs=[]:=if_neg fun hh=>by
   rw[decide_eq_true hh.1]at hbad
   have h2:n7=(xs.length:Int):=hh.2
   simp only[Bool.not_true,Bool.or_eq_true,bne_iff_ne,Bool.false_eq_true]at hbad
   first | exact hbad h2 | (simp at hbad;exact hbad h2)
  rw[e]
  exact⟨(Own.made (k:=.u8) (h:=h1) (b:=b) (T:=5) []).part,New.of (zN s1 hb),s1.trans (Sub.zC hb)⟩
 ·have hv:xD (n0,n1,n2,n3,es,ys,zs,n7,())∧n7=xs.length:=by
   by_cases hv:xD (n0,n1,n2,n3,es,ys,zs,n7,())
   ·rw[decide_eq_true hv]at hok;simp at hok;exact⟨hv,hok⟩
   ·rw[decide_eq_false hv]at hok;simp at hok
  have e:zr (n0,n1,n2,n3,es,ys,zs,n7,()) xs=G1 n0 es ys zs (xq (n0,n1,n2,n3,es,ys,zs,n7,())) xs:=if_pos hv
  rw[e]
  obtain⟨⟨f0,f1⟩,⟨t0,t1⟩,⟨x0,x1⟩,⟨o0,o1⟩,le',⟨m0,m1⟩,_,_,_,_,_,lsum⟩:=hv.1
  have h7:=hv.2
  simp only[mE,mN,mC]at le' lsum
  simp only at f0 f1 t0 t1 x0 x1 o0 o1 m0 m1
  obtain⟨tn,rfl⟩:=Int.eq_ofNat_of_zero_le t0
  have w0:IntKind.u8.wrap n0=n0:=by rw[IntKind.wrap_u8];omega
  have w2:IntKind.u8.wrap n2=n2:=by rw[IntKind.wrap_u8];omega
  have w3:IntKind.u8.wrap n3=n3:=by rw[IntKind.wrap_u8];omega
  rw[w0,w2,w3,wa tn (by omega)]
  have s0:Eng.Sub h1 (upd h1 b (.cells (ints .u8 [31,139,8,n0]) 5)):=Sub.zC hb
  refine(kC (xs:=[31,139,8,n0]) hi (s1.trans s0) (Own.made (k:=.u8) (h:=h1) (b:=b) (T:=5) [31,139,8,n0]).part (New.of (zN s1 hb)) tn 4 (by omega) (by simp)).mono ?_
  rintro v5 h5 ⟨o5,n5,s5⟩
  obtain⟨a5',c5',rfl,_,_⟩:=o5.ints
  refine⟨_,_,_,rfl,?_⟩
  intro b2 hb2
  have s6:Eng.Sub h5 (upd h5 b2 (.cells (ints .u8 [n2,n3]) 5)):=Sub.zC hb2
  refine zJ (ys:=[n2,n3]) hi (s5.trans s6) (o5.sub s6) n5 (zj.new (xs:=[n2,n3])) (by simp[xe]) fun v7 h7 o7 n7' s7 _ _=>?_
  obtain⟨a7,c7,rfl,_,_⟩:=o7.ints
  have eh:[31,139,8,n0]++le tn 4++[n2,n3]=xq (n0,(tn:Int),n2,n3,es,ys,zs,n7,()):=by simp[xq]
  have lh:(xq (n0,(tn:Int),n2,n3,es,ys,zs,n7,())).length=10:=by simp[xq,xe]
  rw[eh]at o7 n7' ⊢
  exact Xu hi s7 O2 hw (by omega) hx4 le' hwm.1 hx5 (by omega) hwm.2.1 hx6 (by omega) hwm.2.2 o7 n7' (by omega) (fun y hy=>by
   simp only[xq]at hy
   rcases List.mem_append.1 hy with hy | hy
   ·rcases List.mem_append.1 hy with hy | hy
    ·simp at hy;omega
    ·have:=okC.le y hy;omega
   ·simp at hy;omega) n0 ⟨f0,f1⟩ _ _ _ _ _ _ _ _ _
end Go.Proofs.YtnhbgoiihgoneaaGreatDoor
end
section
namespace Go.Proofs.YtnhbgoiihgoneaaGreatDoor
open Go Go.Eng Go.IntWalk
variable {B : List Int} {q : Nat} {x : yE}
theorem PW{r:Rd}:bd false r=r:=by unfold bd;rw[if_neg (by simp)]
theorem PX{k:Int}{r:Rd}:bdK k false r=r:=by unfold bdK;rw[if_neg (by simp)]
theorem Ye(H:AtY B q (xq x))(hv:xD x) :
  gFl B ⟨((8*q:Nat):Int),0⟩=x.1∧gMt B ⟨((8*q:Nat):Int),0⟩=(⟨((8*(q+8):Nat):Int),0⟩,x.2.1)∧gXf B ⟨((8*q:Nat):Int),0⟩=(⟨((8*(q+9):Nat):Int),0⟩,x.2.2.1)∧gOs B ⟨((8*q:Nat):Int),0⟩=(⟨((8*(q+10):Nat):Int),0⟩,x.2.2.2.1):=by
 obtain⟨⟨a1,a2⟩,⟨b1,b2⟩,⟨c1,c2⟩,⟨d1,d2⟩,_⟩:=hv
 unfold xq at H
 have H1:AtY B q [31,139,8,x.1]:=(H.left).left
 have H2:AtY B (q+4) (le x.2.1.toNat 4):=(H.left).right
 have H3:AtY B (q+8) [x.2.2.1,x.2.2.2.1]:=by
  have:=H.right
  rw[List.length_append,xe]at this
  exact this
 have g1:gh1 B ⟨((8*q:Nat):Int),0⟩=⟨((8*(q+1):Nat):Int),0⟩:=by
  have:=tk_byte' (B:=B) (q:=q) (x:=31) (by simpa using H1 0 31 rfl) (by decide)
  unfold gh1;rw[this];exact PW
 have g2:gh2 B ⟨((8*q:Nat):Int),0⟩=⟨((8*(q+2):Nat):Int),0⟩:=by
  have:=tk_byte' (B:=B) (q:=q+1) (x:=139) (H1 1 139 rfl) (by decide)
  unfold gh2;rw[g1,this];exact PW
 have g3:gh3 B ⟨((8*q:Nat):Int),0⟩=⟨((8*(q+3):Nat):Int),0⟩:=by
  have:=tk_byte' (B:=B) (q:=q+2) (x:=8) (H1 2 8 rfl) (by decide)
  unfold gh3;rw[g2,this];exact PW
 have t4:=tk_byte' (B:=B) (q:=q+3) (x:=x.1) (H1 3 x.1 rfl) (by omega)
 have e1:gFl B ⟨((8*q:Nat):Int),0⟩=x.1:=by unfold gFl;rw[g3,t4]
 have g4:gh4 B ⟨((8*q:Nat):Int),0⟩=⟨((8*(q+4):Nat):Int),0⟩:=by
  unfold gh4;rw[e1,g3,t4,decide_eq_false (by omega)];exact PW
 have e2:gMt B ⟨((8*q:Nat):Int),0⟩=(⟨((8*(q+8):Nat):Int),0⟩,x.2.1):=by
  unfold gMt;rw[g4,Nf (by omega) H2]
  congr 1;omega
 have e3:gXf B ⟨((8*q:Nat):Int),0⟩=(⟨((8*(q+9):Nat):Int),0⟩,x.2.2.1):=by
  unfold gXf;rw[e2];exact tk_byte' (by simpa using H3 0 _ rfl) (by omega)
 exact⟨e1,e2,e3,by unfold gOs;rw[e3];exact tk_byte' (B:=B) (q:=q+9) (H3 1 _ rfl) (by omega)⟩
theorem B7:(xq x).length=10:=by unfold xq;simp[xe]
theorem Yf{f:Int}{es:List Int}{p:Nat}(H:AtY B p (jV f es))(hl:es.length≤65535)(hw:∀y∈es,0≤y∧y≤255)(h0:es.length=0∨f/4%2≠0) :
  (if f/4%2=1 then byL B (tk B 16 ⟨((8*p:Nat):Int),0⟩).2.toNat (tk B 16 ⟨((8*p:Nat):Int),0⟩).1 []else(⟨((8*p:Nat):Int),0⟩,[]))=(⟨((8*(p+(jV f es).length):Nat):Int),0⟩,es):=by
 unfold jV at H ⊢
 by_cases hf:f/4%2=1
 ·rw[if_pos hf]at H ⊢
  rw[if_pos hf,RY (by omega) H.left]
  have H2:=H.right
  rw[xe]at H2
  have:=RV es (p+2) [] hw H2
  simp only[Int.toNat_natCast]
  rw[this,List.nil_append,List.length_append,xe]
  congr 3;omega
 ·rw[if_neg hf]at H ⊢
  rw[if_neg hf]
  have:es=[]:=by
   rcases h0 with h | h
   ·exact List.length_eq_zero_iff.1 h
   ·omega
  rw[this];simp
theorem U8{f d:Int}{es:List Int}{p:Nat}(H:AtY B p (xu f d es))(hl:p+(xu f d es).length≤B.length)(hw:∀y∈es,0≤y∧y≤255)(hz:(0:Int)∉es)(h0:es.length=0∨f/d%2≠0)(h2:f/d%2=0∨f/d%2=1) :
  (if f/d%2=1 then txL B (B.length+1) ⟨((8*p:Nat):Int),0⟩ []else(⟨((8*p:Nat):Int),0⟩,[]))=(⟨((8*(p+(xu f d es).length):Nat):Int),0⟩,es):=by
 unfold xu at H hl ⊢
 by_cases hf:f/d%2=1
 ·rw[if_pos hf]at H hl ⊢
  rw[if_pos hf]
  rw[List.length_append,List.length_singleton]at hl ⊢
  rw[RX es (B.length+1) p [] (fun y hy=>by
   have:=hw y hy
   have hne:y≠0:=fun e=>hz (e▸hy)
   omega) H (by omega),List.nil_append]
  congr 3
 ·rw[if_neg hf]at H hl ⊢
  rw[if_neg hf]
  have:es=[]:=by
   rcases h0 with h | h
   ·exact List.length_eq_zero_iff.1 h
   ·rcases h2 with g | g
    ·exact absurd g h
    ·exact absurd g hf
  rw[this];simp
theorem OE{xs A C:List Int}{told:Nat}(hv:xD x)(hs:x.2.2.2.2.2.2.2.1=xs.length)(hm:jg x)(hw:∀y∈xs,0≤y∧y≤255)(hl:xs.length≤29)(ht:told+xs.length≤100000)(hB:B=A++(zr x xs++C)) :
  gC2 B told ⟨((8*A.length:Nat):Int),0⟩=⟨((8*(A.length+(zr x xs).length):Nat):Int),0⟩∧(gSt B told ⟨((8*A.length:Nat):Int),0⟩).2=xs ∧
  qd B told ⟨((8*A.length:Nat):Int),0⟩=(x.1,x.2.1,x.2.2.1,x.2.2.2.1,mE x,mN x,mC x,(xs.length:Int)):=by
 have hv':=hv
 obtain⟨⟨a1,a2⟩,_,_,_,v5,_,v7,v8,v9,z8,z16,_⟩:=hv'
 obtain⟨w4,w5,w6⟩:=hm
 obtain⟨cur,hcur⟩:∃cur,cur=xq x++jV x.1 (mE x)++xu x.1 8 (mN x)++xu x.1 16 (mC x):=⟨_,rfl⟩
 obtain⟨fx,hfx⟩:∃fx,fx=zY xs:=⟨_,rfl⟩
 have eE:zr x xs=cur++qg x.1 cur++(fx++le (xE xs) 4++le xs.length 4):=by
  unfold zr
  rw[if_pos ⟨hv,hs⟩,hfx,hcur]
  rfl
 obtain⟨r,hr⟩:∃r:Rd,r=⟨((8*A.length:Nat):Int),0⟩:=⟨_,rfl⟩
 rw[←hr]
 have at0:AtY B A.length (zr x xs):=by rw[hB];exact AtY.mk
 rw[eE]at at0
 have atC:AtY B A.length cur:=at0.left.left
 have lB:B.length=A.length+(zr x xs).length+C.length:=by rw[hB];simp only[List.length_append];omega
 rw[eE]at lB ⊢
 simp only[List.length_append,xe]at lB ⊢
 have lc:cur.length=10+(jV x.1 (mE x)).length+(xu x.1 8 (mN x)).length+(xu x.1 16 (mC x)).length:=by rw[hcur];simp only[List.length_append,B7]
 have atC':=atC
 rw[hcur]at atC'
 obtain⟨e1,e2,e3,e4⟩:=Ye atC'.left.left.left hv
 rw[←hr]at e1 e2 e3 e4
 have A4:AtY B (A.length+10) (jV x.1 (mE x)):=by have:=atC'.left.left.right;rw[B7]at this;exact this
 have A5:AtY B (A.length+10+(jV x.1 (mE x)).length) (xu x.1 8 (mN x)):=by
  have:=atC'.left.right;rw[List.length_append,B7,←Nat.add_assoc]at this;exact this
 have A6:AtY B (A.length+10+(jV x.1 (mE x)).length+(xu x.1 8 (mN x)).length) (xu x.1 16 (mC x)):=by
  have:=atC'.right;rw[List.length_append,List.length_append,B7]at this;simpa[Nat.add_assoc]using this
 have m01:∀d:Int,x.1/d%2=0∨x.1/d%2=1:=fun d=>by omega
 have e5:gEx B r=(⟨((8*(A.length+10+(jV x.1 (mE x)).length):Nat):Int),0⟩,mE x):=by
  unfold gEx;rw[e1,e4];exact Yf A4 v5 w4 v7
 have e6:gNa B r=(⟨((8*(A.length+10+(jV x.1 (mE x)).length+(xu x.1 8 (mN x)).length):Nat):Int),0⟩,mN x):=by
  unfold gNa;rw[e1,e5];exact U8 A5 (by omega) w5 z8 v8 (m01 8)
 have e7:gCo B r=(⟨((8*(A.length+cur.length):Nat):Int),0⟩,mC x):=by
  unfold gCo;rw[e1,e6]
  have:=U8 A6 (by omega) w6 z16 v9 (m01 16)
  simp only
  rw[this,lc]
  congr 3;omega
 have eHb:gHb B r=cur:=by
  unfold gHb
  rw[e7,hr]
  have q1:(((8*(A.length+cur.length):Nat):Int)/8).toNat=A.length+cur.length:=by omega
  have q2:(((8*A.length:Nat):Int)/8).toNat=A.length:=by omega
  simp only
  rw[q1,q2,hB,eE,List.append_assoc,List.append_assoc,List.drop_take,List.drop_left,Nat.add_sub_cancel_left,List.take_left']
  rfl
 have e8:gHd B r=⟨((8*(A.length+cur.length+(qg x.1 cur).length):Nat):Int),0⟩:=by
  have AS:AtY B (A.length+cur.length) (qg x.1 cur):=at0.left.right
  unfold gHd
  rw[e1,eHb,e7]
  unfold qg at AS ⊢
  by_cases hf:x.1/2%2=1
  ·rw[if_pos hf]at AS ⊢
   rw[if_pos ⟨hf,rfl⟩,RY (Nat.mod_lt _ (by decide)) AS,xe]
   have:(((xE cur%65536:Nat):Int) != AB cur%65536)=false:=by
    have:AB cur=(xE cur:Int):=rfl
    rw[this];simp
   simp only
   rw[this,PX]
  ·rw[if_neg hf]at AS ⊢
   rw[if_neg (fun h=>hf h.1)];simp
 obtain⟨p,hp⟩:∃p,p=A.length+cur.length+(qg x.1 cur).length:=⟨_,rfl⟩
 rw[←hp]at e8
 obtain⟨f1,f2,f3⟩:=fix_len' hl hw
 rw[←hfx]at f1
 have lf:(qg x.1 cur).length≤2:=by unfold qg;split <;> simp[xe]
 have AF:AtB B (8*p) (xp xs):=by
  have:=Yd (s:=xp xs) Kd (A++cur++qg x.1 cur) (le (xE xs) 4++le xs.length 4++C)
  rw[show pk (xp xs) (xp xs).length=fx by rw[hfx];exact(if_neg (by omega)).symm]at this
  rw[List.length_append,List.length_append,←hp]at this
  rw[hB,eE];simpa[List.append_assoc]using this
 have e9:gSt B told r=(⟨((8*p+(xp xs).length:Nat):Int),0⟩,xs):=by
  unfold gSt
  rw[e8]
  have:=RU (B:=B) (dl:=0) (room:=100000-told) (sz:=32768) (F:=8*B.length+1) (f:=8*B.length) (al:=[]) hw (by omega) (Nat.le_refl _) (by simp only[List.length_nil];omega) AF
  rw[List.nil_append]at this
  exact this
 have ea:alg (gSt B told r).1=⟨((8*(p+fx.length):Nat):Int),0⟩:=by
  rw[e9];unfold alg;rw[if_pos rfl];congr 1;simp only;omega
 have AT:AtY B (p+fx.length) (le (xE xs) 4):=by
  have:=at0.right.left.right
  rw[List.length_append,←Nat.add_assoc,←hp]at this
  exact this
 have AU:AtY B (p+fx.length+4) (le xs.length 4):=by
  have:=at0.right.right
  simp only[List.length_append,xe]at this
  rw[show p+fx.length+4=A.length+(cur.length+(qg x.1 cur).length)+(fx.length+4) by omega]
  exact this
 have eT1:gT1 B told r=(⟨((8*(p+fx.length+4):Nat):Int),0⟩,(xE xs:Int)):=by unfold gT1;rw[ea];exact Nf Cf AT
 have eC1:gC1 B told r=⟨((8*(p+fx.length+4):Nat):Int),0⟩:=by
  unfold gC1;rw[eT1,e9]
  have:((xE xs:Int) != AB xs)=false:=by show((xE xs:Int) != (xE xs:Int))=false;simp
  simp only
  rw[this,PX]
 have eT2:gT2 B told r=(⟨((8*(p+fx.length+8):Nat):Int),0⟩,(xs.length:Int)):=by unfold gT2;rw[eC1];exact Nf (by omega) AU
 refine⟨?_,by rw[e9],?_⟩
 ·unfold gC2;rw[eT2,e9]
  simp only[bne_self_eq_false]
  rw[PX,hp]
  congr 2;omega
 ·unfold qd;rw[e1,e2,e3,e4,e5,e6,e7,e9]
end Go.Proofs.YtnhbgoiihgoneaaGreatDoor
end
section
namespace Go.Eng
open Go
def qV(sz:Nat)(h:Heap)(v:Value)(n:Nat)(vs:List Value):Prop:=
 vs.length=n*sz∧((v=.slice none 0 0∧n=0)∨∃b sp T m,v=.slice (some ⟨b,0,none⟩) n (n+m)∧sp.length=m*sz∧h b=some (.cells (vs++sp).toArray T))
section
variable {h h0 h' : Heap} {v : Value} {vs us : List Value} {sz n : Nat}
theorem qV.nil:qV sz h (.slice none 0 0) 0 []:=⟨by simp,.inl ⟨rfl,rfl⟩⟩
theorem qV.keep(H:qV sz h v n vs)(hk:∀b,ze v=some b→h' b=h b):qV sz h' v n vs:=by
 obtain⟨hl,⟨rfl,rfl⟩ | ⟨b,sp,T,m,rfl,hs,hb⟩⟩:=H
 ·exact⟨hl,.inl ⟨rfl,rfl⟩⟩
 ·exact⟨hl,.inr ⟨b,sp,T,m,rfl,hs,by rw[hk b rfl];exact hb⟩⟩
theorem qV.held(H:qV sz h v n vs):∀b,ze v=some b→h b≠none:=by
 obtain⟨hl,⟨rfl,rfl⟩ | ⟨b,sp,T,m,rfl,hs,hb⟩⟩:=H
 ·intro b hb;cases hb
 ·intro b' hb';cases hb';rw[hb];simp
theorem qV.form(H:qV sz h v n vs):∃a c,v=.slice a n c:=by
 obtain⟨hl,⟨rfl,rfl⟩ | ⟨b,sp,T,m,rfl,hs,hb⟩⟩:=H
 ·exact⟨_,_,rfl⟩
 ·exact⟨_,_,rfl⟩
theorem qV.cell{a:Option Addr}{l c:Nat}(H:qV sz h (.slice a l c) n vs){i:Nat}{x:Value}(hx:vs[i]? = some x):zd h ((a.getD default).add i)=some x∧a.isSome=true∧l=n:=by
 obtain⟨hl,⟨e,rfl⟩ | ⟨b,sp,T,m,e,hs,hb⟩⟩:=H
 ·have:=(List.getElem?_eq_some_iff.1 hx).1
  simp at hl;rw[hl]at this;simp at this
 ·cases e
  refine⟨?_,rfl,rfl⟩
  rw[Option.getD_some,ye]
  simp only[zd,hb,List.getElem?_toArray]
  rw[List.getElem?_append_left (List.getElem?_eq_some_iff.1 hx).1];exact hx
theorem Lp(z:List Value)(k:Nat):(Builtin.zeroCells z.toArray k).toList.length=k*z.length:=by
 simp[Builtin.zeroCells]
theorem La{S:Shared}{ty:TypeId}{byt c bu:Nat}{z:List Value}{K:Value→Heap→Prop}(hi:Inv S h0)(hsub:Sub h0 h)(hs:qV sz h v n vs)(hn:New h0 v)(hx:∀(j:Nat) x,us[j]? = some x→zd h ((⟨bu,0,none⟩:Addr).add j)=some x)(hu:us.length=sz)(h1:∀x∈us,BW x)(hz:z.length=sz)
  (hl:(n+1)*byt≤140737488355328)
  (hK:∀v' h',qV sz h' v' (n+1) (vs++us)→New h0 v'→Sub h0 h'→(∀b,h b≠none→ze v≠some b→h' b=h b)→(ze v'=ze v∨New h v')→K v' h') :
  appW S ty sz byt z v (.slice (some ⟨bu,0,none⟩) 1 c) h K:=by
 obtain⟨hvl,hs⟩:=hs
 have hlen:(vs++us).length=(n+1)*sz:=by rw[List.length_append,hvl,hu,Nat.add_mul,Nat.one_mul]
 have grown:∀nc d,n+1≤nc→h d=none→K (.slice (some ⟨d,0,none⟩) (n+1) nc) (upd h d (.cells (vs.toArray++us.toArray++Builtin.zeroCells z.toArray (nc-(n+1))) ty)):=by
  intro nc d hnc hd
  have hd0:h0 d=none:=by
   cases hh:h0 d with
   | none=>rfl
   | some o=>rw[hsub d o hh]at hd;cases hd
  have e1:(vs.toArray++us.toArray++Builtin.zeroCells z.toArray (nc-(n+1)))=((vs++us)++(Builtin.zeroCells z.toArray (nc-(n+1))).toList).toArray:=by simp
  rw[e1]
  refine hK _ _ ⟨hlen,.inr ⟨d,(Builtin.zeroCells z.toArray (nc-(n+1))).toList,ty,nc-(n+1),?_,?_,by simp[upd]⟩⟩ (New.of hd0) ?_ (fun x hx hne=>?_) (.inr (New.of hd))
  ·congr 1;omega
  ·rw[Lp,hz]
  ·intro x o hx
   have:x≠d:=fun e=>by rw[e,hd0]at hx;cases hx
   rw[upd_ne this];exact hsub x o hx
  ·have:x≠d:=fun e=>hx (e▸hd)
   exact upd_ne this
 refine⟨us,by rw[slL,Nat.one_mul,hu],Be _ 0 fun j x hj=>by rw[Nat.zero_add];exact hx j x hj,h1,?_⟩
 obtain⟨rfl,rfl⟩ | ⟨b,sp,T,m,rfl,hsp,hb⟩:=hs
 ·have e:vs=[]:=by simpa using hvl
  subst e
  refine⟨fun hroom=>by simp only[slL,slC]at hroom;omega,fun hgrow=>⟨?_,[],by simp[slL],rfl,fun nc d hnc hd=>?_⟩⟩
  ·simp only[slL,slC]at hgrow ⊢
   exact growslice_fits (by omega) hl
  ·simp only[slL]at hnc ⊢
   exact grown nc d hnc hd
 ·have hb0:h0 b=none:=hn b rfl
  have hsb:¬S b:=fun hs=>hi b hs hb0
  refine⟨fun hroom=>?_,fun hgrow=>?_⟩
  ·simp only[slA,slL,slC]at hroom ⊢
   have e0:(⟨b,0,none⟩:Addr).add (n*sz)=⟨b,vs.length,none⟩:=by rw[←hvl,ye]
   rw[e0]
   have hm:1≤m:=by omega
   have hsl:us.length≤sp.length:=by rw[hu,hsp];exact Nat.le_mul_of_pos_left _ hm
   refine D3 hsb us 0 h (vs++sp) hb (by rw[List.length_append];omega) ?_
   have e1:kx (vs++sp) (vs.length+0) us=(vs++us)++sp.drop us.length:=by
    simp[kx,List.drop_append,List.append_assoc]
   rw[e1]
   refine hK _ _ ⟨hlen,.inr ⟨b,sp.drop us.length,T,m-1,?_,?_,upd_same⟩⟩ (New.of hb0) ?_ (fun x hx hne=>upd_ne fun e=>hne (by rw[e];rfl)) (.inl rfl)
   ·congr 1;omega
   ·rw[List.length_drop,hu,hsp,Nat.sub_mul,Nat.one_mul]
   ·intro x o hx
    rw[upd_ne (fun e=>by rw[e,hb0]at hx;cases hx)];exact hsub x o hx
  ·simp only[slA,slL,slC]at hgrow ⊢
   refine⟨growslice_fits (by omega) hl,vs,hvl,Be _ 0 fun j x hj=>?_,fun nc d hnc hd=>grown nc d hnc hd⟩
   rw[ye,Nat.zero_add]
   simp only[zd,hb,List.getElem?_toArray]
   rw[List.getElem?_append_left (List.getElem?_eq_some_iff.1 hj).1];exact hj
end
end Go.Eng
end
section
namespace Go.Proofs.YtnhbgoiihgoneaaGreatDoor
open Go Go.Eng Go.IntWalk
section
variable {s : Nat → Prop} {h h0 h' : Eng.Heap} {bm : Nat} {N N' : Nat → Prop}
def el8(m:GM)(u:Value×Value×Value):List Value:=[.int .i64 m.1,.int .i64 m.2.1,.int .i64 m.2.2.1,.int .i64 m.2.2.2.1,u.1,u.2.1,u.2.2,.int .i64 m.2.2.2.2.2.2.2]
def B8:List GM→List (Value×Value×Value)→List Value
 | m::ms,u::us=>el8 m u++B8 ms us
 | _,_=>[]
def OG1(h:Eng.Heap)(N:Nat→Prop)(m:GM)(u:Value×Value×Value):Prop:=
 Part .u8 h u.1 m.2.2.2.2.1∧Part .u8 h u.2.1 m.2.2.2.2.2.1∧Part .u8 h u.2.2 m.2.2.2.2.2.2.1∧∀y,(ze u.1=some y∨ze u.2.1=some y∨ze u.2.2=some y)→N y
def OGs(h:Eng.Heap)(N:Nat→Prop):List GM→List (Value×Value×Value)→Prop
 | [],[]=>True
 | m::ms,u::us=>OG1 h N m u∧OGs h N ms us
 | _,_=>False
theorem OG1.keep{m:GM}{u:Value×Value×Value}(H:OG1 h N m u)(f:∀y,h y≠none→N y→h' y=h y∧N' y):OG1 h' N' m u:=by
 obtain⟨P1,P2,P3,n⟩:=H
 exact⟨P1.keep fun y hy=>(f y (P1.held y hy) (n y (.inl hy))).1,P2.keep fun y hy=>(f y (P2.held y hy) (n y (.inr (.inl hy)))).1,P3.keep fun y hy=>(f y (P3.held y hy) (n y (.inr (.inr hy)))).1,
  fun y hy=>by
   have hh:h y≠none:=by rcases hy with e | e | e;exact P1.held y e;exact P2.held y e;exact P3.held y e
   exact(f y hh (n y hy)).2⟩
theorem OGs.keep(f:∀y,h y≠none→N y→h' y=h y∧N' y):∀ {ms:List GM} {us:List (Value×Value×Value)},OGs h N ms us→OGs h' N' ms us
 | [],[],_=>trivial
 | m::ms,u::us,H=>⟨H.1.keep f,OGs.keep f H.2⟩
 | [],_::_,H=>H.elim
 | _::_,[],H=>H.elim
theorem OGs.app{m:GM}{u:Value×Value×Value}(H1:OG1 h N m u):∀ {ms:List GM} {us:List (Value×Value×Value)},OGs h N ms us→OGs h N (ms++[m]) (us++[u])
 | [],[],_=>⟨H1,trivial⟩
 | _::_,_::_,H=>⟨H.1,OGs.app H1 H.2⟩
 | [],_::_,H=>H.elim
 | _::_,[],H=>H.elim
theorem Fq{m:GM}{u:Value×Value×Value}:∀ {ms:List GM} {us:List (Value×Value×Value)},OGs h N ms us→B8 (ms++[m]) (us++[u])=B8 ms us++el8 m u
 | [],[],_=>by simp[B8]
 | _::_,_::_,H=>by simp only[List.cons_append,B8];rw[Fq H.2,List.append_assoc]
 | [],_::_,H=>H.elim
 | _::_,[],H=>H.elim
def DX(bs:List Int):Int×List Int×List GM×Int:=if bs.length>65536 then(7,[],[],0)else if(Fl bs).1.k≠0 then((Fl bs).1.k,(Fl bs).2.1,(Fl bs).2.2,0)else(1,(Fl bs).2.1,(Fl bs).2.2,(bs.length:Int))
def PGz(h:Eng.Heap)(X:Int×List Int×List GM×Int)(v:Value)(h':Eng.Heap):Prop:=
 ∃(a:Option Addr) (c:Nat) (vm:Value) (us:List (Value×Value×Value)),v=.agg #[.int .i64 X.1,.slice a X.2.1.length c,vm,.int .i64 X.2.2.2]∧Part .u8 h' (.slice a X.2.1.length c) X.2.1∧Eng.New h (.slice a X.2.1.length c) ∧
  qV 8 h' vm X.2.2.1.length (B8 X.2.2.1 us)∧Eng.New h vm∧OGs h' (fun y=>h y=none) X.2.2.1 us∧Eng.Sub h h'
def posOf(h:Eng.Heap)(bm:Nat):Nat:=match zd h ⟨bm,1,none⟩with
 | some (.int _ x)=>x.toNat
 | _=>0
theorem Xv{n:Nat}{r:Rd}{bs:List Int}(h:(tk bs n r).1.k=0):r.k=0∧(tk bs n r).1.i=r.i+n:=⟨Fa h,Ju h⟩
theorem Nj{K:Int}{w:Bool}{r:Rd}(hK:K≠0):le2 r (bdK K w r):=fun h=>by
 unfold bdK at h ⊢
 split at h
 ·exact absurd h hK
 ·rename_i g;rw[if_neg g];exact⟨h,by omega⟩
theorem Sj{bs:List Int}{r:Rd}:le2 r (bk3 bs r):=fun h=>⟨(Mx h).1,by have:=(Mx h).2;omega⟩
theorem OF{bs:List Int}{dl room sz F:Nat}:∀ {f:Nat} {r:Rd} {al:List Int},le2 r (blF bs dl room sz F f r al).1
 | 0,r,al=>fun h=>⟨h,by unfold blF;simp⟩
 | f+1,r,al=>by
  unfold blF
  split
  ·split
   ·exact(Sj).trans Rq
   ·exact(Sj.trans Rq).trans OF
  ·exact fun h=>⟨h,by simp⟩
theorem Sk{bs:List Int}{told:Nat}{r:Rd}(h:(gC2 bs told r).k=0):r.k=0∧r.i+8≤(gC2 bs told r).i:=by
 have a1:le2 (tk bs 8 r).1 (gh1 bs r):=xO
 have a2:le2 (gh1 bs r) (gh2 bs r):=yu.trans xO
 have a3:le2 (gh2 bs r) (gh3 bs r):=yu.trans xO
 have a4:le2 (gh3 bs r) (gh4 bs r):=yu.trans xO
 have a5:le2 (gh4 bs r) (gOs bs r).1:=(yu.trans yu).trans yu
 have a6:le2 (gOs bs r).1 (gCo bs r).1:=by
  have e1:le2 (gOs bs r).1 (gEx bs r).1:=by unfold gEx;split;exact yu.trans MZ;exact fun h=>⟨h,by simp⟩
  have e2:le2 (gEx bs r).1 (gNa bs r).1:=by unfold gNa;split;exact JD;exact fun h=>⟨h,by simp⟩
  have e3:le2 (gNa bs r).1 (gCo bs r).1:=by unfold gCo;split;exact JD;exact fun h=>⟨h,by simp⟩
  exact(e1.trans e2).trans e3
 have a7:le2 (gCo bs r).1 (gHd bs r):=by
  unfold gHd;split
  ·exact yu.trans (Nj (by decide))
  ·exact fun h=>⟨h,by simp⟩
 have a8:le2 (gHd bs r) (gSt bs told r).1:=OF
 have a9:le2 (gSt bs told r).1 (gC1 bs told r):=(Mv.trans yu).trans (Nj (by decide))
 have a10:le2 (gC1 bs told r) (gC2 bs told r):=yu.trans (Nj (by decide))
 obtain⟨b1,b2⟩:=((((((((a1.trans a2).trans a3).trans a4).trans a5).trans a6).trans a7).trans a8).trans a9).trans a10 h
 obtain⟨c1,c2⟩:=Xv b1
 exact⟨c1,by omega⟩
theorem JE{bs:List Int}{f:Nat}{r:Rd}{xs:List Int}{ms:List GM}(h:¬(r.k=0∧(r.i<8*(bs.length:Int)∨ms=[]))):gZ bs f r xs ms=(r,xs,ms):=by
 cases f with
 | zero=>rfl
 | succ f=>unfold gZ;rw[if_neg h]
theorem g_impl_Gzip'(hi:Eng.Inv (zW Tryz.prog s) h)(G:ErrS h)(E:CJ h){v:Value}{bs:List Int}(O:tB.O h v bs)(hb:okB bs)(L:DT bs) :
  zc Tryz.prog (zW Tryz.prog s) D8 #[v] h (PGz h (DX bs)):=by
 obtain⟨a,c,rfl,hc,hx⟩:=Part.ints O
 have hL:bs.length≤1048576:=L
 refine Ln (vs:=[.slice a bs.length c]) ⟨rfl,trivial⟩ hi ?_
 simp only[HL,Tr.wp,zG,Ex.ev,coerce,toInt_int,zb,zf,zi,zg,zh,zI,arith,Cst.val,SV.den,zq,zL,zE,zo,zn,yo,z9,zU,zp,List.flatMap_cons,List.flatMap_nil,List.replicate_one,List.getD_cons_zero,List.getD_cons_succ,List.getElem?_cons_zero,List.getElem?_cons_succ,decide_eq_true_eq,decide_eq_false_iff_not,List.map_cons,List.map_nil,List.cons_append,List.nil_append,List.append_nil,List.length_cons,List.length_nil,Nat.zero_add,Nat.add_zero,and_true,if_true,if_false,Bool.false_eq_true,zm]
 refine⟨fun hgt=>?_,fun hle=>?_⟩
 ·have e:DX bs=(7,[],[],0):=if_pos (by omega)
  rw[e]
  exact⟨none,0,.slice none 0 0,[],rfl,Part.nil,fun y hy=>(by cases hy),qV.nil,fun y hy=>(by cases hy),trivial,fun _ _ e=>e⟩
 intro bm hbm
 have eM:(Obj.cells (Value.slice a bs.length c::Value.int .i64 0::Value.pointer none::Value.slice none 0 0::Value.int .i64 100000::Value.bool false::List.replicate 2 (Value.pointer none)).toArray 53)=zQ a c bs ((0:Nat):Int) ⟨.pointer none,.slice none 0 0,100000,false,.pointer none,.pointer none⟩ 53:=rfl
 rw[eM]
 have M0:MO h (upd h bm (zQ a c bs ((0:Nat):Int) ⟨.pointer none,.slice none 0 0,100000,false,.pointer none,.pointer none⟩ 53)) bm a c bs 53 ⟨0,0⟩ [] none 0:=
  ⟨⟨0,_,_,_,_,by omega,fun _=>rfl,upd_same⟩,Part.nil,fun y hy=>(by cases hy),Sub.zC hbm,by simp⟩
 generalize upd h bm (zQ a c bs ((0:Nat):Int) ⟨.pointer none,.slice none 0 0,100000,false,.pointer none,.pointer none⟩ 53)=h1 at M0 ⊢
 refine⟨fun us h'=>∃(f:Nat) (r:Rd) (xs:List Int) (ms:List GM) (ao:Option Addr) (co:Nat) (vm:Value) (usl:List (Value×Value×Value)),us=[.bool (decide (ms=[])),vm]∧8*(bs.length:Int)+16≤r.i+8*f∧8*(ms.length:Int)≤r.i∧r.k=0∧0≤r.i∧r.i≤8*(bs.length:Int)∧MO h h' bm a c bs 53 r xs ao co ∧
   qV 8 h' vm ms.length (B8 ms usl)∧Eng.New h vm∧(∀y,ze vm=some y→y≠bm∧ze (.slice ao xs.length co)≠some y)∧OGs h' (fun y=>h y=none∧y≠bm∧ze (.slice ao xs.length co)≠some y∧ze vm≠some y) ms usl∧gZ bs f r xs ms=Fl bs,
  fun us h'=>8*bs.length-posOf h' bm,⟨bs.length+2,⟨0,0⟩,[],[],none,0,.slice none 0 0,[],rfl,by simp only;omega,by simp,rfl,by simp,by simp only;omega,M0,qV.nil,fun y hy=>(by cases hy),fun y hy=>(by cases hy),trivial,rfl⟩,?_⟩
 rintro x a1 l1 c1 h' ⟨f,r,xs,ms,ao,co,vm,usl,hx1,hf,hml,hk,hr0,hr1,M,Ow,Nv,vN,OG,e⟩
 simp only[List.cons.injEq,Value.bool.injEq,and_true]at hx1
 obtain⟨rfl,rfl⟩:=hx1
 obtain⟨p,w,last,l,d,hp,hrp,hm⟩:=id M.mt
 have er:=hrp hk
 have wp:IntKind.i64.wrap ((p:Int).tdiv 8)=((p/8:Nat):Int):=by rw[Int.tdiv_eq_ediv_of_nonneg (by omega),i64_in _ (by omega)];omega
 refine⟨fun hx2=>?_,fun hx2=>?_⟩
 ·have hms:ms ≠ []:=by simpa using hx2
  refine⟨_,(ya hm).2.1,fun _=>?_⟩
  rw[wp]
  refine⟨fun hlt=>?_,fun hge=>?_⟩
  ·have hcd:r.i<8*(bs.length:Int)∨ms=[]:=.inl (by rw[er];show(p:Int)<_;omega)
   obtain⟨f1,rfl⟩:∃f1,f=f1+1:=⟨f-1,by omega⟩
   rw[gZ,if_pos ⟨hk,hcd⟩]at e
   refine zc.mono (Na hi G hx (by omega) hc hb hbm M hk) ?_
   rintro _ h2 ⟨fl,mt,xf,os,u4,u5,u6,sz,ao',co',rfl,M2,fr,oh,⟨a4,l4,c4,a5,l5,c5,a6,l6,c6,rfl,rfl,rfl⟩,BI⟩
   obtain⟨p2,w2,last2,l2,d2,hp2,hrp2,hm2⟩:=id M2.mt
   have vk:∀y,ze (.slice a1 l1 c1)=some y→h' y≠none∧h2 y=h' y:=fun y hy=>⟨Ow.held y hy,fr y (Ow.held y hy) (vN y hy).1 (vN y hy).2⟩
   refine⟨_,_,_,_,_,_,_,_,_,_,_,_,_,_,zA (gC2 bs xs.length r).k,za,by rw[za],fun hz=>?_,fun hz=>?_⟩
   ·have hz:(gC2 bs xs.length r).k≠0:=by simpa[zt,za]using hz
    rw[if_neg hz,JE (fun h=>hz h.1)]at e
    refine⟨_,_,_,(ya hm2).2.2.2.1,?_⟩
    rw[za,Oj hz]
    refine zc.mono (KI (hi.sub M2.sb) (E.sub M2.sb)) ?_
    rintro _ h4 ⟨rfl,s4⟩
    have k4:∀y,h2 y≠none→h4 y=h2 y:=fun y hy=>by
     cases ho:h2 y with
     | none=>exact absurd ho hy
     | some o=>exact s4 y o ho
    have eA:DX bs=((gC2 bs xs.length r).k,xs++(gSt bs xs.length r).2,ms,0):=by unfold DX;rw[if_neg (by omega),←e,if_pos hz]
    refine⟨_,rfl,fun pp hpp=>?_,?_⟩
    ·obtain rfl:=List.mem_singleton.1 hpp
     simp only[Ex.ev,coerce,zf,zi,zg,zh,List.getD_cons_zero,List.getD_cons_succ,Nat.zero_add,Nat.add_zero,zm,zh]
     exact yN s4 (ya hm2).2.2.2.1
    ·rw[eA]
     refine⟨ao',co',_,usl,rfl,M2.pt.sub s4,fun y hy=>(M2.nw y hy).1,Ow.keep fun y hy=>?_,Nv,OG.keep fun y g1 g2=>?_,M2.sb.trans s4⟩
     ·obtain⟨g1,g2⟩:=vk y hy
      rw[k4 y (by rw[g2];exact g1),g2]
     ·have g3:=fr y g1 g2.2.1 g2.2.2.1
      exact⟨by rw[k4 y (by rw[g3];exact g1),g3],g2.1⟩
   ·have hz:(gC2 bs xs.length r).k=0:=by simpa[zt,za]using hz
    rw[if_pos hz]at e
    obtain⟨rfl,rfl,rfl,rfl,rfl,P4,P5,P6⟩:=BI hz
    obtain⟨_,far⟩:=Sk hz
    have er2:=hrp2 hz
    have ei2:(gC2 bs xs.length r).i=(p2:Int):=by rw[er2]
    have ei:r.i=(p:Int):=by rw[er]
    intro b1 hb1
    have nb1:∀y,h2 y≠none→y≠b1:=fun y hy e=>hy (e▸hb1)
    have eC:(Obj.cells #[Value.int .i64 (gFl bs r),Value.int .i64 (gMt bs r).2,Value.int .i64 (gXf bs r).2,Value.int .i64 (gOs bs r).2,.slice a4 l4 c4,.slice a5 l5 c5,.slice a6 l6 c6,Value.int .i64 ((gSt bs xs.length r).2.length:Int)] 24)=.cells (el8 (qd bs xs.length r) (.slice a4 l4 c4,.slice a5 l5 c5,.slice a6 l6 c6)).toArray 24:=rfl
    rw[eC]
    have s1:Eng.Sub h2 (upd h2 b1 (.cells (el8 (qd bs xs.length r) (.slice a4 l4 c4,.slice a5 l5 c5,.slice a6 l6 c6)).toArray 24)):=Sub.zC hb1
    have kb:∀y,h2 y≠none→upd h2 b1 (.cells (el8 (qd bs xs.length r) (.slice a4 l4 c4,.slice a5 l5 c5,.slice a6 l6 c6)).toArray 24) y=h2 y:=fun y hy=>upd_ne (nb1 y hy)
    have cb:upd h2 b1 (.cells (el8 (qd bs xs.length r) (.slice a4 l4 c4,.slice a5 l5 c5,.slice a6 l6 c6)).toArray 24) b1=some (.cells (el8 (qd bs xs.length r) (.slice a4 l4 c4,.slice a5 l5 c5,.slice a6 l6 c6)).toArray 24):=upd_same
    generalize upd h2 b1 (.cells (el8 (qd bs xs.length r) (.slice a4 l4 c4,.slice a5 l5 c5,.slice a6 l6 c6)).toArray 24)=hC at s1 kb cb ⊢
    refine La (S:=zW Tryz.prog s) (h0:=h) (sz:=8) (us:=el8 (qd bs xs.length r) (.slice a4 l4 c4,.slice a5 l5 c5,.slice a6 l6 c6)) hi (M2.sb.trans s1) (Ow.keep fun y hy=>?_) Nv (fun j x hj=>?_) rfl (fun x hx=>?_) rfl (by omega) fun v3 h3 Ow3 Nv3 s3 k3 r3=>?_
    ·obtain⟨g1,g2⟩:=vk y hy
     rw[kb y (by rw[g2];exact g1),g2]
    ·rw[ye]
     simp only[zd,cb,List.getElem?_toArray]
     exact hj
    ·simp only[el8,List.mem_cons,List.not_mem_nil,or_false]at hx
     rcases hx with rfl | rfl | rfl | rfl | rfl | rfl | rfl | rfl <;> exact⟨rfl,fun _ h=>(by cases h),fun _ h=>(by cases h)⟩
    ·obtain⟨a3,c3,rfl⟩:=Ow3.form
     simp only[zg,zf,zi]
     have k2:∀y,h2 y≠none→ze (.slice a1 l1 c1)≠some y→h3 y=h2 y:=fun y g1 g2=>(k3 y (by rw[kb y g1];exact g1) g2).trans (kb y g1)
     have hbm2:h2 bm≠none:=by rw[hm2];simp
     have ob:∀y,ze (.slice ao' (xs++(gSt bs xs.length r).2).length co')=some y→ze (.slice a1 l1 c1)≠some y:=fun y hy g=>by
      rcases oh y hy with g3 | g3
      ·exact(vk y g).1 g3
      ·exact(vN y g).2 g3
     have vb:∀y,h2 y≠none→ze (.slice a1 l1 c1)≠some y→ze (.slice a3 (ms.length+1) c3)≠some y:=fun y g1 g2 g3=>by
      rcases r3 with r3 | r3
      ·exact g2 (r3▸g3)
      ·have:=r3 y g3;rw[kb y g1]at this;exact g1 this
     have m3:h3 bm=h2 bm:=k2 bm hbm2 (fun g=>(vN bm g).1 rfl)
     refine⟨⟨f1,gC2 bs xs.length r,xs++(gSt bs xs.length r).2,ms++[qd bs xs.length r],ao',co',.slice a3 (ms.length+1) c3,usl++[(.slice a4 l4 c4,.slice a5 l5 c5,.slice a6 l6 c6)],by simp,by omega,by rw[List.length_append,List.length_singleton];omega,hz,by omega,by omega,?_,?_,Nv3,?_,?_,e⟩,?_⟩
     ·exact⟨⟨p2,w2,last2,l2,d2,hp2,hrp2,m3.trans hm2⟩,M2.pt.keep fun y hy=>k2 y (M2.pt.held y hy) (ob y hy),M2.nw,s3,M2.le⟩
     ·rw[List.length_append,List.length_singleton,Fq OG];exact Ow3
     ·intro y hy
      refine⟨fun g=>?_,fun g=>?_⟩
      ·subst g;exact vb y hbm2 (fun g=>(vN y g).1 rfl) hy
      ·exact vb y (M2.pt.held y g) (ob y g) hy
     ·refine OGs.app ?_ (OG.keep fun y g1 g2=>?_)
      ·have pn:∀ {u:Value} {x:List Int},PU h' h2 bm (.slice ao' (xs++(gSt bs xs.length r).2).length co') u x→Part .u8 h3 u x∧∀y,ze u=some y→h y=none∧y≠bm∧ze (.slice ao' (xs++(gSt bs xs.length r).2).length co')≠some y∧ze (.slice a3 (ms.length+1) c3)≠some y:=fun P=>by
        have q:∀y,ze _=some y→ze (.slice a1 l1 c1)≠some y:=fun y hy g=>(vk y g).1 (P.2 y hy).1
        exact⟨P.1.keep fun y hy=>k2 y (P.1.held y hy) (q y hy),fun y hy=>⟨zN M.sb (P.2 y hy).1,(P.2 y hy).2.1,(P.2 y hy).2.2,vb y (P.1.held y hy) (q y hy)⟩⟩
       exact⟨(pn P4).1,(pn P5).1,(pn P6).1,fun y hy=>by
        rcases hy with g | g | g
        ·exact(pn P4).2 y g
        ·exact(pn P5).2 y g
        ·exact(pn P6).2 y g⟩
      ·have g3:=fr y g1 g2.2.1 g2.2.2.1
       have g4:h2 y≠none:=by rw[g3];exact g1
       refine⟨(k2 y g4 g2.2.2.2).trans g3,g2.1,g2.2.1,fun g=>?_,vb y g4 g2.2.2.2⟩
       rcases oh y g with g5 | g5
       ·exact g1 g5
       ·exact g2.2.2.1 g5
     ·have q1:posOf h' bm=p:=by unfold posOf;rw[(ya hm).2.1];rfl
      have q2:posOf h3 bm=p2:=by unfold posOf;rw[(ya (m3.trans hm2)).2.1];rfl
      simp only[q1,q2]
      omega
  ·have hcd:¬(r.k=0∧(r.i<8*(bs.length:Int)∨ms=[])):=fun h=>by
    rcases h.2 with h | h
    ·rw[er]at h;simp only at h;omega
    ·exact hms h
   rw[JE hcd]at e
   have eA:DX bs=(1,xs,ms,(bs.length:Int)):=by unfold DX;rw[if_neg (by omega),←e,if_neg (fun h=>h hk)]
   refine⟨_,_,_,(ya hm).2.2.2.1,?_⟩
   rw[eA]
   exact⟨ao,co,_,usl,rfl,M.pt,fun y hy=>(M.nw y hy).1,Ow,Nv,OG.keep fun y _ g=>⟨rfl,g.1⟩,M.sb⟩
 ·have hms:ms=[]:=by simpa using hx2
  refine fun _=>⟨fun _=>?_,fun h=>by cases h⟩
  have hcd:r.i<8*(bs.length:Int)∨ms=[]:=.inr hms
  obtain⟨f1,rfl⟩:∃f1,f=f1+1:=⟨f-1,by omega⟩
  rw[gZ,if_pos ⟨hk,hcd⟩]at e
  refine zc.mono (Na hi G hx (by omega) hc hb hbm M hk) ?_
  rintro _ h2 ⟨fl,mt,xf,os,u4,u5,u6,sz,ao',co',rfl,M2,fr,oh,⟨a4,l4,c4,a5,l5,c5,a6,l6,c6,rfl,rfl,rfl⟩,BI⟩
  obtain⟨p2,w2,last2,l2,d2,hp2,hrp2,hm2⟩:=id M2.mt
  have vk:∀y,ze (.slice a1 l1 c1)=some y→h' y≠none∧h2 y=h' y:=fun y hy=>⟨Ow.held y hy,fr y (Ow.held y hy) (vN y hy).1 (vN y hy).2⟩
  refine⟨_,_,_,_,_,_,_,_,_,_,_,_,_,_,zA (gC2 bs xs.length r).k,za,by rw[za],fun hz=>?_,fun hz=>?_⟩
  ·have hz:(gC2 bs xs.length r).k≠0:=by simpa[zt,za]using hz
   rw[if_neg hz,JE (fun h=>hz h.1)]at e
   refine⟨_,_,_,(ya hm2).2.2.2.1,?_⟩
   rw[za,Oj hz]
   refine zc.mono (KI (hi.sub M2.sb) (E.sub M2.sb)) ?_
   rintro _ h4 ⟨rfl,s4⟩
   have k4:∀y,h2 y≠none→h4 y=h2 y:=fun y hy=>by
    cases ho:h2 y with
    | none=>exact absurd ho hy
    | some o=>exact s4 y o ho
   have eA:DX bs=((gC2 bs xs.length r).k,xs++(gSt bs xs.length r).2,ms,0):=by unfold DX;rw[if_neg (by omega),←e,if_pos hz]
   refine⟨_,rfl,fun pp hpp=>?_,?_⟩
   ·obtain rfl:=List.mem_singleton.1 hpp
    simp only[Ex.ev,coerce,zf,zi,zg,zh,List.getD_cons_zero,List.getD_cons_succ,Nat.zero_add,Nat.add_zero,zm,zh]
    exact yN s4 (ya hm2).2.2.2.1
   ·rw[eA]
    refine⟨ao',co',_,usl,rfl,M2.pt.sub s4,fun y hy=>(M2.nw y hy).1,Ow.keep fun y hy=>?_,Nv,OG.keep fun y g1 g2=>?_,M2.sb.trans s4⟩
    ·obtain⟨g1,g2⟩:=vk y hy
     rw[k4 y (by rw[g2];exact g1),g2]
    ·have g3:=fr y g1 g2.2.1 g2.2.2.1
     exact⟨by rw[k4 y (by rw[g3];exact g1),g3],g2.1⟩
  ·have hz:(gC2 bs xs.length r).k=0:=by simpa[zt,za]using hz
   rw[if_pos hz]at e
   obtain⟨rfl,rfl,rfl,rfl,rfl,P4,P5,P6⟩:=BI hz
   obtain⟨_,far⟩:=Sk hz
   have er2:=hrp2 hz
   have ei2:(gC2 bs xs.length r).i=(p2:Int):=by rw[er2]
   have ei:r.i=(p:Int):=by rw[er]
   intro b1 hb1
   have nb1:∀y,h2 y≠none→y≠b1:=fun y hy e=>hy (e▸hb1)
   have eC:(Obj.cells #[Value.int .i64 (gFl bs r),Value.int .i64 (gMt bs r).2,Value.int .i64 (gXf bs r).2,Value.int .i64 (gOs bs r).2,.slice a4 l4 c4,.slice a5 l5 c5,.slice a6 l6 c6,Value.int .i64 ((gSt bs xs.length r).2.length:Int)] 24)=.cells (el8 (qd bs xs.length r) (.slice a4 l4 c4,.slice a5 l5 c5,.slice a6 l6 c6)).toArray 24:=rfl
   rw[eC]
   have s1:Eng.Sub h2 (upd h2 b1 (.cells (el8 (qd bs xs.length r) (.slice a4 l4 c4,.slice a5 l5 c5,.slice a6 l6 c6)).toArray 24)):=Sub.zC hb1
   have kb:∀y,h2 y≠none→upd h2 b1 (.cells (el8 (qd bs xs.length r) (.slice a4 l4 c4,.slice a5 l5 c5,.slice a6 l6 c6)).toArray 24) y=h2 y:=fun y hy=>upd_ne (nb1 y hy)
   have cb:upd h2 b1 (.cells (el8 (qd bs xs.length r) (.slice a4 l4 c4,.slice a5 l5 c5,.slice a6 l6 c6)).toArray 24) b1=some (.cells (el8 (qd bs xs.length r) (.slice a4 l4 c4,.slice a5 l5 c5,.slice a6 l6 c6)).toArray 24):=upd_same
   generalize upd h2 b1 (.cells (el8 (qd bs xs.length r) (.slice a4 l4 c4,.slice a5 l5 c5,.slice a6 l6 c6)).toArray 24)=hC at s1 kb cb ⊢
   refine La (S:=zW Tryz.prog s) (h0:=h) (sz:=8) (us:=el8 (qd bs xs.length r) (.slice a4 l4 c4,.slice a5 l5 c5,.slice a6 l6 c6)) hi (M2.sb.trans s1) (Ow.keep fun y hy=>?_) Nv (fun j x hj=>?_) rfl (fun x hx=>?_) rfl (by omega) fun v3 h3 Ow3 Nv3 s3 k3 r3=>?_
   ·obtain⟨g1,g2⟩:=vk y hy
    rw[kb y (by rw[g2];exact g1),g2]
   ·rw[ye]
    simp only[zd,cb,List.getElem?_toArray]
    exact hj
   ·simp only[el8,List.mem_cons,List.not_mem_nil,or_false]at hx
    rcases hx with rfl | rfl | rfl | rfl | rfl | rfl | rfl | rfl <;> exact⟨rfl,fun _ h=>(by cases h),fun _ h=>(by cases h)⟩
   ·obtain⟨a3,c3,rfl⟩:=Ow3.form
    simp only[zg,zf,zi]
    have k2:∀y,h2 y≠none→ze (.slice a1 l1 c1)≠some y→h3 y=h2 y:=fun y g1 g2=>(k3 y (by rw[kb y g1];exact g1) g2).trans (kb y g1)
    have hbm2:h2 bm≠none:=by rw[hm2];simp
    have ob:∀y,ze (.slice ao' (xs++(gSt bs xs.length r).2).length co')=some y→ze (.slice a1 l1 c1)≠some y:=fun y hy g=>by
     rcases oh y hy with g3 | g3
     ·exact(vk y g).1 g3
     ·exact(vN y g).2 g3
    have vb:∀y,h2 y≠none→ze (.slice a1 l1 c1)≠some y→ze (.slice a3 (ms.length+1) c3)≠some y:=fun y g1 g2 g3=>by
     rcases r3 with r3 | r3
     ·exact g2 (r3▸g3)
     ·have:=r3 y g3;rw[kb y g1]at this;exact g1 this
    have m3:h3 bm=h2 bm:=k2 bm hbm2 (fun g=>(vN bm g).1 rfl)
    refine⟨⟨f1,gC2 bs xs.length r,xs++(gSt bs xs.length r).2,ms++[qd bs xs.length r],ao',co',.slice a3 (ms.length+1) c3,usl++[(.slice a4 l4 c4,.slice a5 l5 c5,.slice a6 l6 c6)],by simp,by omega,by rw[List.length_append,List.length_singleton];omega,hz,by omega,by omega,?_,?_,Nv3,?_,?_,e⟩,?_⟩
    ·exact⟨⟨p2,w2,last2,l2,d2,hp2,hrp2,m3.trans hm2⟩,M2.pt.keep fun y hy=>k2 y (M2.pt.held y hy) (ob y hy),M2.nw,s3,M2.le⟩
    ·rw[List.length_append,List.length_singleton,Fq OG];exact Ow3
    ·intro y hy
     refine⟨fun g=>?_,fun g=>?_⟩
     ·subst g;exact vb y hbm2 (fun g=>(vN y g).1 rfl) hy
     ·exact vb y (M2.pt.held y g) (ob y g) hy
    ·refine OGs.app ?_ (OG.keep fun y g1 g2=>?_)
     ·have pn:∀ {u:Value} {x:List Int},PU h' h2 bm (.slice ao' (xs++(gSt bs xs.length r).2).length co') u x→Part .u8 h3 u x∧∀y,ze u=some y→h y=none∧y≠bm∧ze (.slice ao' (xs++(gSt bs xs.length r).2).length co')≠some y∧ze (.slice a3 (ms.length+1) c3)≠some y:=fun P=>by
       have q:∀y,ze _=some y→ze (.slice a1 l1 c1)≠some y:=fun y hy g=>(vk y g).1 (P.2 y hy).1
       exact⟨P.1.keep fun y hy=>k2 y (P.1.held y hy) (q y hy),fun y hy=>⟨zN M.sb (P.2 y hy).1,(P.2 y hy).2.1,(P.2 y hy).2.2,vb y (P.1.held y hy) (q y hy)⟩⟩
      exact⟨(pn P4).1,(pn P5).1,(pn P6).1,fun y hy=>by
       rcases hy with g | g | g
       ·exact(pn P4).2 y g
       ·exact(pn P5).2 y g
       ·exact(pn P6).2 y g⟩
     ·have g3:=fr y g1 g2.2.1 g2.2.2.1
      have g4:h2 y≠none:=by rw[g3];exact g1
      refine⟨(k2 y g4 g2.2.2.2).trans g3,g2.1,g2.2.1,fun g=>?_,vb y g4 g2.2.2.2⟩
      rcases oh y g with g5 | g5
      ·exact g1 g5
      ·exact g2.2.2.1 g5
    ·have q1:posOf h' bm=p:=by unfold posOf;rw[(ya hm).2.1];rfl
     have q2:posOf h3 bm=p2:=by unfold posOf;rw[(ya (m3.trans hm2)).2.1];rfl
     simp only[q1,q2]
     omega
end
end Go.Proofs.YtnhbgoiihgoneaaGreatDoor
end
section
namespace Go.Proofs.YtnhbgoiihgoneaaGreatDoor
open Go Go.Eng Go.IntWalk
def Fs(x:yE)(xs:List Int):GM:=(x.1,x.2.1,x.2.2.1,x.2.2.2.1,mE x,mN x,mC x,(xs.length:Int))
theorem OH{x:yE}{xs:List Int}(hv:xD x)(hs:x.2.2.2.2.2.2.2.1=xs.length):10≤(zr x xs).length:=by
 have e:zr x xs=G1 x.1 (mE x) (mN x) (mC x) (xq x) xs:=if_pos ⟨hv,hs⟩
 rw[e]
 unfold G1 G2 G3 G4 G5
 simp only[List.length_append,B7]
 omega
theorem Sl{x y:yE}{xs ys:List Int}(hv:xD x)(hs:x.2.2.2.2.2.2.2.1=xs.length)(hm:jg x)(hw:∀z∈xs,0≤z∧z≤255)(hl:xs.length≤29)
  (hv2:xD y)(hs2:y.2.2.2.2.2.2.2.1=ys.length)(hm2:jg y)(hw2:∀z∈ys,0≤z∧z≤255)(hl2:ys.length≤29)(hL:(zr x xs++zr y ys).length≤65536) :
  DX (zr x xs++zr y ys)=(1,xs++ys,[Fs x xs,Fs y ys],((zr x xs++zr y ys).length:Int)):=by
 obtain⟨B,hB⟩:∃B,B=zr x xs++zr y ys:=⟨_,rfl⟩
 have p1:=OH hv hs
 have p2:=OH hv2 hs2
 have lB:B.length=(zr x xs).length+(zr y ys).length:=by rw[hB,List.length_append]
 rw[←hB]at hL ⊢
 obtain⟨c1,d1,m1⟩:=OE (B:=B) (A:=[]) (C:=zr y ys) (told:=0) hv hs hm hw hl (by omega) (by rw[hB];rfl)
 obtain⟨c2,d2,m2⟩:=OE (B:=B) (A:=zr x xs) (C:=[]) (told:=xs.length) hv2 hs2 hm2 hw2 hl2 (by omega) (by rw[hB,List.append_nil])
 simp only[List.length_nil,Nat.zero_add,Nat.mul_zero]at c1 d1 m1
 have z0:(⟨((0:Nat):Int),0⟩:Rd)=⟨0,0⟩:=rfl
 rw[z0]at c1 d1 m1
 have e:Fl B=(⟨((8*B.length:Nat):Int),0⟩,xs++ys,[Fs x xs,Fs y ys]):=by
  unfold Fl
  rw[gZ,if_pos ⟨rfl,.inr rfl⟩]
  simp only[List.length_nil,List.nil_append]
  rw[c1,d1,m1,if_pos rfl]
  have hb1:B.length+1=(B.length-1+1)+1:=by omega
  rw[hb1,gZ,if_pos ⟨rfl,.inl (by simp only;omega)⟩,c2,d2,m2,if_pos rfl,JE (fun h=>by
   rcases h.2 with h | h
   ·simp only at h;omega
   ·simp at h)]
  rw[lB]
  rfl
 unfold DX
 rw[if_neg (by omega),e,if_neg (by simp)]
end Go.Proofs.YtnhbgoiihgoneaaGreatDoor
end
section
namespace Go.Proofs.YtnhbgoiihgoneaaGreatDoor
open Go Go.Eng Go.IntWalk
section
variable {s : Nat → Prop} {h h0 h' : Eng.Heap}
theorem Yg(hi:Eng.Inv (zW Tryz.prog s) h)(G:ErrS h)(E:CJ h){n0 n1 n2 n3 n7 p0 p1 p2 p3 p7:Int}{x4 x5 x6 xs y4 y5 y6 ys:List Int}{a4 a5 a6 a8 b4 b5 b6 b8 a20 a21:Option Addr}{c4 c5 c6 c8 d4 d5 d6 d8 c20 c21:Nat}
  (G4:zj h .u8 a4 x4)(G5:zj h .u8 a5 x5)(G6:zj h .u8 a6 x6)(O8:tB.O h (.slice a8 xs.length c8) xs)(H4:zj h .u8 b4 y4)(H5:zj h .u8 b5 y5)(H6:zj h .u8 b6 y6)(Q8:tB.O h (.slice b8 ys.length d8) ys)
  (hm:jg (n0,n1,n2,n3,x4,x5,x6,n7,()))(hm2:jg (p0,p1,p2,p3,y4,y5,y6,p7,()))(hw:∀z∈xs,0≤z∧z≤255)(hw2:∀z∈ys,0≤z∧z≤255)(hl:xs.length≤29)(hl2:ys.length≤29)
  (hv:xD (n0,n1,n2,n3,x4,x5,x6,n7,()))(hv2:xD (p0,p1,p2,p3,y4,y5,y6,p7,()))(hs:n7=xs.length)(hs2:p7=ys.length)
  {A B:List Int}(eA:A=zr (n0,n1,n2,n3,x4,x5,x6,n7,()) xs)(eB:B=zr (p0,p1,p2,p3,y4,y5,y6,p7,()) ys)
  (OA:tB.O h (.slice a20 A.length c20) A)(OB:tB.O h (.slice a21 B.length c21) B)(hL:A.length+B.length≤65536)(hAw:∀z∈A,0≤z∧z<256)(hBw:∀z∈B,0≤z∧z<256)(K0 K1 K2:Kt)(e0 e1 e22 e23 e24 e25 e26:Value) :
  fgE.wp Tryz.prog (zW Tryz.prog s) yg (fun v h'=>v=.bool true) [e0,e1,.int .i64 n0,.int .i64 n1,.int .i64 n2,.int .i64 n3,.slice a4 x4.length c4,.slice a5 x5.length c5,.slice a6 x6.length c6,.int .i64 n7,.slice a8 xs.length c8,
   .int .i64 p0,.int .i64 p1,.int .i64 p2,.int .i64 p3,.slice b4 y4.length d4,.slice b5 y5.length d5,.slice b6 y6.length d6,.int .i64 p7,.slice b8 ys.length d8,.slice a20 A.length c20,.slice a21 B.length c21,e22,e23,e24,e25,e26] h [K0,K1,K2]:=by
 subst hs hs2
 simp only[fgE,Tr.wp,zG,Ex.ev,coerce,toInt_int,zb,zf,zi,zg,zh,yi,wz,zI,arith,Cst.val,SV.den,zq,zL,zE,zo,zn,z9,zp,List.flatMap_cons,List.flatMap_nil,List.getD_cons_zero,List.getD_cons_succ,List.getElem?_cons_zero,List.getElem?_cons_succ,decide_eq_true_eq,List.map_cons,List.map_nil,List.cons_append,List.nil_append,List.append_nil,Nat.zero_add,and_true,if_false,Bool.false_eq_true]
 obtain⟨_,_,eA1,hcA,gA⟩:=Part.ints OA
 cases eA1
 obtain⟨_,_,eB1,hcB,gB⟩:=Part.ints OB
 cases eB1
 obtain⟨_,_,e81,hc8,g8⟩:=Part.ints O8
 cases e81
 obtain⟨_,_,e82,hd8,g82⟩:=Part.ints Q8
 cases e82
 have back:=Sl hv rfl hm hw hl hv2 rfl hm2 hw2 hl2 (by rw[←eA,←eB,List.length_append];omega)
 rw[←eA,←eB]at back
 intro b1 hb1
 have e0':(#[]:Array Value)=ints .u8 []:=rfl
 rw[e0']
 have t1:Eng.Sub h (upd h b1 (.cells (ints .u8 []) 5)):=Sub.zC hb1
 refine zJ (xs:=[]) hi t1 (Own.made (k:=.u8) (h:=h) (b:=b1) (T:=5) []).part (New.of hb1) (gA.sub t1) (by simp only[List.length_nil];omega) fun v2 h2 o2 w2 s2 _ _=>?_
 rw[List.nil_append]at o2
 obtain⟨a22,c22,rfl,_,_⟩:=o2.ints
 simp only[zg,zf,zi]
 refine zJ hi s2 o2 w2 (gB.sub s2) (by omega) fun v3 h3 o3 w3 s3 _ _=>?_
 obtain⟨a23,c23,rfl,_,_⟩:=o3.ints
 simp only[zg,zf,zi]
 refine zc.mono (g_impl_Gzip' (hi.sub s3) (G.sub s3) (E.sub s3) o3 (Ov hAw hBw) (by show(A++B).length≤_;rw[List.length_append];omega)) ?_
 rw[back]
 rintro _ h4 ⟨a24,c24,vm,us,rfl,P4,N4,Ow,Nv,OG,s4⟩
 dsimp only at P4 N4 Ow OG ⊢
 obtain⟨av,cv,rfl⟩:=Ow.form
 have i4:=hi.sub (s3.trans s4)
 obtain⟨_,_,e44,_,g44⟩:=P4.ints
 cases e44
 refine⟨_,_,_,_,_,_,_,_,rfl,fun _=>?_,fun hne=>by simp at hne⟩
 intro b2 hb2
 have t2:Eng.Sub h4 (upd h4 b2 (.cells (ints .u8 []) 5)):=Sub.zC hb2
 refine zJ (xs:=[]) i4 t2 (Own.made (k:=.u8) (h:=h4) (b:=b2) (T:=5) []).part (New.of hb2) (g8.sub ((s3.trans s4).trans t2)) (by simp only[List.length_nil];omega) fun v5 h5 o5 n5 s5 _ _=>?_
 rw[List.nil_append]at o5
 obtain⟨a25,c25,rfl,_,_⟩:=o5.ints
 simp only[zg,zf,zi]
 refine zJ i4 s5 o5 n5 (g82.sub ((s3.trans s4).trans s5)) (by omega) fun v6 h6 o6 n6 s6 _ _=>?_
 obtain⟨a26,c26,rfl,_,g66⟩:=o6.ints
 simp only[zg,zf,zi]
 refine(Ds (i4.sub s6) (g44.sub s6) g66).mono ?_
 rintro _ hq ⟨rfl,eq⟩
 subst eq
 refine⟨_,rfl,fun _=>?_,fun hne=>by simp at hne⟩
 obtain⟨u1,u2,rfl⟩:∃u1 u2,us=[u1,u2]:=by
  match us,OG with
  | [u1,u2],_=>exact⟨u1,u2,rfl⟩
  | [],OG=>exact OG.elim
  | [_],OG=>exact OG.2.elim
  | _::_::_::_,OG=>exact OG.2.2.elim
 obtain⟨⟨P14,P15,P16,_⟩,⟨P24,P25,P26,_⟩,_⟩:=OG
 simp only[Fs,mE,mN,mC]at P14 P15 P16 P24 P25 P26
 obtain⟨a31,k31,q31,_,g31⟩:=P14.ints
 obtain⟨a32,k32,q32,_,g32⟩:=P15.ints
 obtain⟨a33,k33,q33,_,g33⟩:=P16.ints
 obtain⟨a41,k41,q41,_,g41⟩:=P24.ints
 obtain⟨a42,k42,q42,_,g42⟩:=P25.ints
 obtain⟨a43,k43,q43,_,g43⟩:=P26.ints
 have cell:∀(i:Nat) (x:Value),(el8 (Fs (n0,n1,n2,n3,x4,x5,x6,(xs.length:Int),()) xs) u1++el8 (Fs (p0,p1,p2,p3,y4,y5,y6,(ys.length:Int),()) ys) u2)[i]? = some x→zd hq ((av.getD default).add i)=some x:=fun i x hx=>
  yN s6 (Ow.cell (i:=i) (by simpa only[B8,List.append_nil]using hx)).1
 have nn:(!av.isNone)=true:=by
  have:=(Ow.cell (i:=0) (x:=.int .i64 n0) rfl).2.1
  cases av with
  | none=>cases this
  | some _=>rfl
 have cell':∀(i j k:Nat) (x:Value),i+j=k→(el8 (Fs (n0,n1,n2,n3,x4,x5,x6,(xs.length:Int),()) xs) u1++el8 (Fs (p0,p1,p2,p3,y4,y5,y6,(ys.length:Int),()) ys) u2)[k]? = some x→zd hq (((av.getD default).add i).add j)=some x:=fun i j k x e hx=>by
  rw[add_add,e];exact cell k x hx
 have S6:=(s3.trans s4).trans s6
 refine⟨nn,by simp,by simp,?_⟩
 refine⟨n0,n1,n2,n3,a31,x4.length,k31,a32,x5.length,k32,a33,x6.length,k33,(xs.length:Int),⟨cell' _ _ 0 _ rfl rfl,cell' _ _ 1 _ rfl rfl,cell' _ _ 2 _ rfl rfl,cell' _ _ 3 _ rfl rfl,cell' _ _ 4 _ rfl (by rw[←q31];rfl),cell' _ _ 5 _ rfl (by rw[←q32];rfl),cell' _ _ 6 _ rfl (by rw[←q33];rfl),cell' _ _ 7 _ rfl rfl⟩,?_⟩
 refine(JA (i4.sub s6) (g31.sub s6) (g32.sub s6) (g33.sub s6) (G4.sub S6) (G5.sub S6) (G6.sub S6)).mono ?_
 rintro _ hr ⟨rfl,er⟩
 subst er
 refine⟨_,rfl,fun _=>?_,fun hne=>by simp at hne⟩
 refine⟨nn,by simp,by simp,?_⟩
 refine⟨p0,p1,p2,p3,a41,y4.length,k41,a42,y5.length,k42,a43,y6.length,k43,(ys.length:Int),⟨cell' _ _ 8 _ rfl rfl,cell' _ _ 9 _ rfl rfl,cell' _ _ 10 _ rfl rfl,cell' _ _ 11 _ rfl rfl,cell' _ _ 12 _ rfl (by rw[←q41];rfl),cell' _ _ 13 _ rfl (by rw[←q42];rfl),cell' _ _ 14 _ rfl (by rw[←q43];rfl),cell' _ _ 15 _ rfl rfl⟩,?_⟩
 refine(JA (i4.sub s6) (g41.sub s6) (g42.sub s6) (g43.sub s6) (H4.sub S6) (H5.sub S6) (H6.sub S6)).mono ?_
 rintro _ hr ⟨rfl,er⟩
 subst er
 refine⟨_,rfl,fun _=>?_⟩
 have w:IntKind.i64.wrap ((A.length:Int)+B.length)=((A++B).length:Int):=by rw[i64_in _ (by omega),List.length_append];push_cast;rfl
 rw[w]
 simp
theorem Sm{x:yE}{xs:List Int}(h:zr x xs ≠ []):xD x∧x.2.2.2.2.2.2.2.1=xs.length:=by
 by_cases hv:xD x∧x.2.2.2.2.2.2.2.1=xs.length
 ·exact hv
 ·exact absurd (if_neg hv) h
theorem U9(hi:Eng.Inv (zW Tryz.prog s) h)(G:ErrS h)(E:CJ h){n0 n1 n2 n3 n7 p0 p1 p2 p3 p7:Int}{x4 x5 x6 xs y4 y5 y6 ys:List Int}{a4 a5 a6 a8 b4 b5 b6 b8 a20 a21:Option Addr}{c4 c5 c6 c8 d4 d5 d6 d8 c20 c21:Nat}
  (G4:zj h .u8 a4 x4)(G5:zj h .u8 a5 x5)(G6:zj h .u8 a6 x6)(O8:tB.O h (.slice a8 xs.length c8) xs)(H4:zj h .u8 b4 y4)(H5:zj h .u8 b5 y5)(H6:zj h .u8 b6 y6)(Q8:tB.O h (.slice b8 ys.length d8) ys)
  (hm:jg (n0,n1,n2,n3,x4,x5,x6,n7,()))(hm2:jg (p0,p1,p2,p3,y4,y5,y6,p7,()))(LM:jM (n0,n1,n2,n3,x4,x5,x6,n7,()))(LM2:jM (p0,p1,p2,p3,y4,y5,y6,p7,()))
  (hw:∀z∈xs,0≤z∧z≤255)(hw2:∀z∈ys,0≤z∧z≤255)(hl:xs.length≤29)(hl2:ys.length≤29)
  {A B:List Int}(eA:A=zr (n0,n1,n2,n3,x4,x5,x6,n7,()) xs)(eB:B=zr (p0,p1,p2,p3,y4,y5,y6,p7,()) ys)
  (OA:tB.O h (.slice a20 A.length c20) A)(OB:tB.O h (.slice a21 B.length c21) B){t:Bool}(ht:t=false→A ≠ []∧B ≠ [])(lA:A.length≤4000000)(lB:B.length≤4000000)(hAw:∀z∈A,0≤z∧z<256)(hBw:∀z∈B,0≤z∧z<256)(K0:Kt)(e0 e1 e22 e23 e24 e25:Value) :
  fgA.wp Tryz.prog (zW Tryz.prog s) yg (fun v h'=>v=.bool true) [e0,e1,.int .i64 n0,.int .i64 n1,.int .i64 n2,.int .i64 n3,.slice a4 x4.length c4,.slice a5 x5.length c5,.slice a6 x6.length c6,.int .i64 n7,.slice a8 xs.length c8,
   .int .i64 p0,.int .i64 p1,.int .i64 p2,.int .i64 p3,.slice b4 y4.length d4,.slice b5 y5.length d5,.slice b6 y6.length d6,.int .i64 p7,.slice b8 ys.length d8,.slice a20 A.length c20,.slice a21 B.length c21,e22,e23,e24,e25,.bool t] h [K0]:=by
 simp only[fgA,Tr.wp,zG,Ex.ev,coerce,toInt_int,zb,zf,zi,zg,zI,arith,Cst.val,SV.den,zq,zL,zE,zo,zn,z9,List.flatMap_cons,List.flatMap_nil,List.getD_cons_zero,List.getD_cons_succ,List.getElem?_cons_zero,List.getElem?_cons_succ,decide_eq_true_eq,decide_eq_false_iff_not,List.map_cons,List.map_nil,List.cons_append,List.nil_append,List.append_nil,if_false,Bool.false_eq_true]
 refine⟨fun _=>?_,fun htf=>⟨fun _=>trivial,fun hle=>?_⟩⟩
 ·refine zc.mono (ki hi (qn (x:=(n0,n1,n2,n3,x4,x5,x6,n7,())) ⟨_,_,rfl,G4⟩ ⟨_,_,rfl,G5⟩ ⟨_,_,rfl,G6⟩) hm LM O8 hw (by show xs.length≤_;omega)) ?_
  rintro _ h1 ⟨O1,N1,s1⟩
  obtain⟨a30,c30,rfl⟩:=CM (tB.OR O1)
  rw[←eA]
  refine⟨_,_,_,rfl,fun _=>?_,fun hne=>by simp at hne⟩
  refine zc.mono (ki (hi.sub s1) (qn (x:=(p0,p1,p2,p3,y4,y5,y6,p7,())) ⟨_,_,rfl,H4.sub s1⟩ ⟨_,_,rfl,H5.sub s1⟩ ⟨_,_,rfl,H6.sub s1⟩) hm2 LM2 (Ty.Ah Q8 s1) hw2 (by show ys.length≤_;omega)) ?_
  rintro _ h2 ⟨O2,N2,s2⟩
  obtain⟨a31,c31,rfl⟩:=CM (tB.OR O2)
  rw[←eB]
  exact⟨_,_,_,rfl,fun _=>by simp⟩
 ·obtain⟨nA,nB⟩:=ht htf
  obtain⟨hv,hs⟩:=Sm (eA▸nA)
  obtain⟨hv2,hs2⟩:=Sm (eB▸nB)
  have hL:A.length+B.length≤65536:=by rw[i64_in _ (by omega)]at hle;omega
  exact Yg hi G E G4 G5 G6 O8 H4 H5 H6 Q8 hm hm2 hw hw2 hl hl2 hv hv2 hs hs2 eA eB OA OB hL hAw hBw _ _ _ _ _ _ _ _ _ _
theorem UA{bs:List Int}(hb:∀b∈bs,0≤b∧b≤1):∀ {k:Nat},okC (pk bs k)
 | 0=>fun y hy=>by cases hy
 | k+1=>by
  have hbit:0≤bs.getD k 0∧bs.getD k 0≤1:=by
   rw[List.getD_eq_getElem?_getD]
   cases hg:bs[k]? with
   | none=>simp
   | some x=>exact hb x (List.mem_of_getElem? hg)
  have hpb:=CN hb (k:=k)
  have hp7:(2:Int)^(k%8)≤128:=by
   have:k%8<8:=Nat.mod_lt _ (by decide)
   generalize k%8=m at this ⊢
   match m,this with
   | 0,_ | 1,_ | 2,_ | 3,_ | 4,_ | 5,_ | 6,_ | 7,_=>decide
  have ih:=UA hb (k:=k)
  intro y hy
  rw[pk]at hy
  unfold qa at hy
  rcases List.mem_or_eq_of_mem_set hy with h | h
  ·split at h
   ·rcases List.mem_append.1 h with h | h
    ·exact ih y h
    ·rw[List.mem_singleton.1 h];omega
   ·exact ih y h
  ·have e:y=xh (pk bs k) k+bs.getD k 0*2^(k%8):=h
   rw[e]
   generalize (2:Int)^(k%8)=q at *
   rcases(show bs.getD k 0=0∨bs.getD k 0=1 by omega)with h | h <;> rw[h] <;> omega
theorem OI{x:yE}{xs:List Int}(hwm:jg x)(LM:jM x)(hw:∀y∈xs,0≤y∧y≤255)(L:xs.length≤29):(zr x xs).length≤4000000∧∀z∈zr x xs,0≤z∧z<256:=by
 have hf:=Ku hw
 have hfo:okC (zY xs):=by
  unfold zY
  split
  ·exact fun y hy=>by cases hy
  ·exact UA Kd
 obtain⟨l4,l5,l6⟩:=LM
 have l4:(mE x).length≤1048576:=l4
 have l5:(mN x).length≤1048576:=l5
 have l6:(mC x).length≤1048576:=l6
 unfold zr
 split
 ·rename_i hv
  have hh:okC (xq x):=by
   obtain⟨⟨f0,f1⟩,_,⟨x0,x1⟩,⟨o0,o1⟩,_⟩:=hv.1
   unfold xq
   refine(okC.app (fun y hy=>?_) okC.le).app fun y hy=>?_
   ·simp only[List.mem_cons,List.not_mem_nil,or_false]at hy
    rcases hy with rfl | rfl | rfl | rfl <;> omega
   ·simp only[List.mem_cons,List.not_mem_nil,or_false]at hy
    rcases hy with rfl | rfl <;> omega
  unfold G1 G2 G3 G4 G5 LC
  generalize hc:xq x++jV x.1 (mE x)++xu x.1 8 (mN x)++xu x.1 16 (mC x)=cur
  have hco:okC cur:=by rw[←hc];exact((hh.app (okC.ext hwm.1)).app (okC.txt hwm.2.1)).app (okC.txt hwm.2.2)
  have h1:(jV x.1 (mE x)).length≤2+(mE x).length:=VQ
  have h2:(xu x.1 8 (mN x)).length≤1+(mN x).length:=OD
  have h3:(xu x.1 16 (mC x)).length≤1+(mC x).length:=OD
  have h4:(qg x.1 cur).length≤2:=VR
  have h5:(xq x).length=10:=by simp[xq,xe]
  have h6:cur.length≤3200000:=by rw[←hc];simp only[List.length_append];omega
  have hso:okC (qg x.1 cur):=by
   unfold qg
   split
   ·exact okC.le
   ·exact fun y hy=>by cases hy
  refine⟨by simp only[List.length_append,xe];omega,(((hco.app hso).app ((hfo.app okC.le).app okC.le))).okB⟩
 ·exact⟨by simp,fun z hz=>by cases hz⟩
theorem Um(hi:Eng.Inv (zW Tryz.prog s) h)(G:ErrS h)(E:CJ h)(a1:Option Addr)(c1:Nat)(code:List Int)(hx:zj h .u8 a1 code)(hl1:code.length≤maxLen)(hw1:∀x∈code,(Lit.int .u8 x).wf=true)
  (a2:Option Addr)(c2:Nat)(more:List Int)(hx2:zj h .u8 a2 more)(hl2:more.length≤maxLen)(hw2:∀x∈more,(Lit.int .u8 x).wf=true) :
  zc Tryz.prog (zW Tryz.prog s) Fy #[.slice a1 code.length c1,.slice a2 more.length c2] h (fun v h'=>v=.bool true):=by
 refine Jq (vs:=[.slice a1 code.length c1,.slice a2 more.length c2]) ⟨rfl,rfl,trivial⟩ hi ?_
 simp only[F9,Tr.wp,zG,Ex.ev,coerce,toInt_int,zb,zf,zi,zg,Bd,zI,Cst.val,SV.den,zq,zL,zE,zo,zn,z9,List.flatMap_cons,List.flatMap_nil,List.getD_cons_zero,List.getD_cons_succ,List.getElem?_cons_zero,List.getElem?_cons_succ,decide_eq_true_eq,List.map_cons,List.map_nil,List.cons_append,List.nil_append,List.append_nil,List.length_cons,List.length_nil,Nat.zero_add,if_true,if_false,Bool.false_eq_true]
 refine⟨fun _=>trivial,fun hsm=>?_⟩
 have hs1:code.length≤1048576∧more.length≤1048576:=by simp at hsm;omega
 refine(CV hi hx hs1.1).mono ?_
 rintro _ h1 ⟨n0,n1,n2,n3,n7,a4,a5,a6,a8,c4,c5,c6,c8,x4,x5,x6,xs,rfl,G4,G5,G6,l4,l5,l6,w4,w5,w6,O8,l8,w8,s1⟩
 refine⟨_,_,_,_,_,_,_,_,_,_,_,_,_,_,_,_,_,rfl,?_⟩
 refine(CV (hi.sub s1) (hx2.sub s1) hs1.2).mono ?_
 rintro _ h2 ⟨p0,p1,p2,p3,p7,b4,b5,b6,b8,d4,d5,d6,d8,y4,y5,y6,ys,rfl,H4,H5,H6,m4,m5,m6,v4,v5,v6,Q8,m8,v8,s2⟩
 refine⟨_,_,_,_,_,_,_,_,_,_,_,_,_,_,_,_,_,rfl,?_⟩
 have hm:jg (n0,n1,n2,n3,x4,x5,x6,n7,()):=⟨w4,w5,w6⟩
 have hm2:jg (p0,p1,p2,p3,y4,y5,y6,p7,()):=⟨v4,v5,v6⟩
 have LM:jM (n0,n1,n2,n3,x4,x5,x6,n7,()):=⟨by show x4.length≤_;omega,by show x5.length≤_;omega,by show x6.length≤_;omega⟩
 have LM2:jM (p0,p1,p2,p3,y4,y5,y6,p7,()):=⟨by show y4.length≤_;omega,by show y5.length≤_;omega,by show y6.length≤_;omega⟩
 have s12:=s1.trans s2
 refine zc.mono (BM (hi.sub s12) (qn (x:=(n0,n1,n2,n3,x4,x5,x6,n7,())) ⟨_,_,rfl,G4.sub s2⟩ ⟨_,_,rfl,G5.sub s2⟩ ⟨_,_,rfl,G6.sub s2⟩) hm LM (Ty.Ah O8 s2) w8 (by show xs.length≤_;omega)) ?_
 rintro _ h3 ⟨OA,NA,s3⟩
 obtain⟨a20,c20,rfl⟩:=CM (tB.OR OA)
 refine⟨_,_,_,rfl,?_⟩
 have s13:=s12.trans s3
 refine zc.mono (BM (hi.sub s13) (qn (x:=(p0,p1,p2,p3,y4,y5,y6,p7,())) ⟨_,_,rfl,H4.sub s3⟩ ⟨_,_,rfl,H5.sub s3⟩ ⟨_,_,rfl,H6.sub s3⟩) hm2 LM2 (Ty.Ah Q8 s3) v8 (by show ys.length≤_;omega)) ?_
 rintro _ h4 ⟨OB,NB,s4⟩
 obtain⟨a21,c21,rfl⟩:=CM (tB.OR OB)
 refine⟨_,_,_,rfl,?_⟩
 have s14:=s13.trans s4
 have s24:=s2.trans (s3.trans s4)
 have s34:=s3.trans s4
 obtain⟨A,eA⟩:∃A,A=zr (n0,n1,n2,n3,x4,x5,x6,n7,()) xs:=⟨_,rfl⟩
 obtain⟨B,eB⟩:∃B,B=zr (p0,p1,p2,p3,y4,y5,y6,p7,()) ys:=⟨_,rfl⟩
 have LA:=OI hm LM w8 l8
 have LB:=OI hm2 LM2 v8 m8
 rw[←eA]at OA LA ⊢
 rw[←eB]at OB LB ⊢
 refine zc.mono (ki (hi.sub s14) (qn (x:=(n0,n1,n2,n3,x4,x5,x6,n7,())) ⟨_,_,rfl,G4.sub s24⟩ ⟨_,_,rfl,G5.sub s24⟩ ⟨_,_,rfl,G6.sub s24⟩) hm LM (Ty.Ah O8 s24) w8 (by show xs.length≤_;omega)) ?_
 rintro _ h5 ⟨O5,N5,s5⟩
 obtain⟨a22,c22,rfl⟩:=CM (tB.OR O5)
 rw[←eA]
 refine⟨_,_,_,rfl,fun hA=>?_,fun hA _=>?_⟩
 ·have hA:A ≠ []:=fun e=>by subst e;simp at hA
  have s25:=s24.trans s5
  refine zc.mono (ki (hi.sub (s14.trans s5)) (qn (x:=(p0,p1,p2,p3,y4,y5,y6,p7,())) ⟨_,_,rfl,H4.sub (s34.trans s5)⟩ ⟨_,_,rfl,H5.sub (s34.trans s5)⟩ ⟨_,_,rfl,H6.sub (s34.trans s5)⟩) hm2 LM2 (Ty.Ah Q8 (s34.trans s5)) v8 (by show ys.length≤_;omega)) ?_
  rintro _ h6 ⟨O6,N6,s6⟩
  obtain⟨a23,c23,rfl⟩:=CM (tB.OR O6)
  rw[←eB]
  have s46:=s5.trans s6
  exact⟨_,_,_,rfl,fun _=>U9 (hi.sub (s14.trans s46)) (G.sub (s14.trans s46)) (E.sub (s14.trans s46)) (G4.sub (s24.trans s46)) (G5.sub (s24.trans s46)) (G6.sub (s24.trans s46)) (Ty.Ah O8 (s24.trans s46)) (H4.sub (s34.trans s46)) (H5.sub (s34.trans s46)) (H6.sub (s34.trans s46)) (Ty.Ah Q8 (s34.trans s46)) hm hm2 LM LM2 w8 v8 l8 m8 eA eB (Ty.Ah OA (s4.trans s46)) (Ty.Ah OB s46) (fun h=>⟨hA,fun e=>by subst e;simp at h⟩) LA.1 LB.1 LA.2 LB.2 _ _ _ _ _ _ _⟩
 ·exact U9 (hi.sub (s14.trans s5)) (G.sub (s14.trans s5)) (E.sub (s14.trans s5)) (G4.sub (s24.trans s5)) (G5.sub (s24.trans s5)) (G6.sub (s24.trans s5)) (Ty.Ah O8 (s24.trans s5)) (H4.sub (s34.trans s5)) (H5.sub (s34.trans s5)) (H6.sub (s34.trans s5)) (Ty.Ah Q8 (s34.trans s5)) hm hm2 LM LM2 w8 v8 l8 m8 eA eB (Ty.Ah OA (s4.trans s5)) (Ty.Ah OB s5) (fun h=>by cases h) LA.1 LB.1 LA.2 LB.2 _ _ _ _ _ _ _
end
end Go.Proofs.YtnhbgoiihgoneaaGreatDoor
end
