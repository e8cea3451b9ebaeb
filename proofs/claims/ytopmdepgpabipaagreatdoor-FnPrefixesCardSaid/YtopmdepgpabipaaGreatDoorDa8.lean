import Derived.IntWalk
import Derived.Test.YtopmdepgpabipaaGreatDoorChecked
import Derived.Conc.WgGenN3
import Derived.Conc.CrowdRun
import Derived.Test.YtopmdepgpabipaaGreatDoorDa2
import Derived.Test.YtopmdepgpabipaaGreatDoorDa3
import Derived.Test.YtopmdepgpabipaaGreatDoorDa4
import Derived.Test.YtopmdepgpabipaaGreatDoorDa5
import Derived.Test.YtopmdepgpabipaaGreatDoorDa6
import Derived.Test.YtopmdepgpabipaaGreatDoorDa7
set_option maxRecDepth 100000
set_option maxHeartbeats 8000000
set_option linter.unusedVariables false
set_option linter.unusedSimpArgs false
set_option linter.unusedSectionVars false
namespace Go.Proofs.YtopmdepgpabipaaGreatDoor
open Go Go.Eng Go.IntWalk
section
variable {g1 g2 g3 h h' h0 hb:qaA}{al bs ds xs ys:List Int}{r r':Rd}{a a2 ad:Option Addr}{B D F b bm c c2 dl n room sz:Nat}{T:TypeId}{p:Int}{d l u v:Value}{last w:Bool}{ls:List Nat}{Y:Nat->Nat->Nat}{cd cl cs:List (Nat×Nat)}{S:Shared}
section
section
theorem Uy:∀s:Fin 285,265<=s.1->0<=IntKind.i64.wrap (IntKind.i64.wrap ((IntKind.i64.wrap ((s.1:Int)-265)).tdiv 4)+1) /\
  IntKind.i64.wrap (IntKind.i64.wrap (IntKind.i64.wrap (4+(IntKind.i64.wrap ((s.1:Int)-265)).tmod 4)*2^min (IntKind.i64.wrap (IntKind.i64.wrap ((IntKind.i64.wrap ((s.1:Int)-265)).tdiv 4)+1)).toNat IntKind.i64.bits)+3)=((yL s.1).1:Int) /\
  IntKind.i64.wrap (IntKind.i64.wrap ((IntKind.i64.wrap ((s.1:Int)-265)).tdiv 4)+1)=((yL s.1).2:Int):=by decide +kernel
theorem Uz:∀d:Fin 30,4<=d.1->0<=IntKind.i64.wrap (IntKind.i64.wrap ((d.1:Int).tdiv 2)-1) /\
  IntKind.i64.wrap (IntKind.i64.wrap (IntKind.i64.wrap (2+(d.1:Int).tmod 2)*2^min (IntKind.i64.wrap (IntKind.i64.wrap ((d.1:Int).tdiv 2)-1)).toNat IntKind.i64.bits)+1)=((yW d.1).1:Int) /\
  IntKind.i64.wrap (IntKind.i64.wrap ((d.1:Int).tdiv 2)-1)=((yW d.1).2:Int):=by decide +kernel
theorem Sw(hi:qaC S h)(s:Nat)(h1:257<=s)(h2:s<=285) :
  zb oPP S AS #[.int .i64 s] h (fun v h'=>v=.tuple #[.int .i64 (yL s).1,.int .i64 (yL s).2]/\h'=h):=by
 refine I0 (vs:=[.int .i64 s]) ⟨rfl,trivial⟩ hi ?_;simp only[DV,Tr.wp,Ex.ev,coerce,toInt_int,za,z9,arith,Cst.val,SV.den,vA,vL,vR,vD,vE,vW,vV,vK];refine⟨fun he=>?_,fun hne=>⟨fun hlt=>?_,fun hge=>?_⟩⟩
 ·obtain rfl:s=285:=by have:(s:Int)=285:=uK.1 he;omega
  rfl
 ·have e:yL s=(s-254,0):=by unfold yL;rw[vM (by omega),vP (by omega)]
  rw[e,i64_in ((s:Int)-254) (by omega)]
  first | rfl | (rw[show((s-254:Nat):Int)=(s:Int)-254 by omega];rfl)
 ·have hne:s≠285:=fun e=>by subst e;simp at hne
  obtain⟨a1,a2,a3⟩:=Uy ⟨s,by omega⟩ (by simp only;omega);simp only at a1 a2 a3;rw[a2,a3];exact⟨by simp,rfl⟩
theorem Wh(hi:qaC S h)(d:Nat)(h1:d<=29) :
  zb oPP S Cp #[.int .i64 d] h (fun v h'=>v=.tuple #[.int .i64 (yW d).1,.int .i64 (yW d).2]/\h'=h):=by
 refine Km (vs:=[.int .i64 d]) ⟨rfl,trivial⟩ hi ?_;simp only[Gl,Tr.wp,Ex.ev,coerce,toInt_int,za,z9,arith,Cst.val,SV.den,vA,vL,vR,vD,vE,vW,vV,vK];refine⟨fun hlt=>?_,fun hge=>?_⟩
 ·have e:yW d=(d+1,0):=by unfold yW;rw[vP (by omega)]
  rw[e,i64_in ((d:Int)+1) (by omega)]
  first | exact rfl | (push_cast;rfl)
 ·obtain⟨a1,a2,a3⟩:=Uz ⟨d,by omega⟩ (by simp only;omega);simp only at a1 a2 a3;rw[a2,a3];exact⟨by simp,rfl⟩
end
section
structure ErrL(h:qaA):Prop where
 es:Errs h
 e6:zj h ⟨5,0,none⟩=some (.int .i64 6)
theorem ErrL.sub(H:ErrL h)(s:qaB h h'):ErrL h':=⟨H.es.sub s,xF s H.e6⟩
structure KC where
 a:Option Addr
 c:Nat
 bs:List Int
 dl:Nat
 room:Nat
 sz:Nat
 T:TypeId
 TW:TypeId
 bm:Nat
 bw:Nat
 pre:List Int
def KC.otl(k:KC)(al:List Int):List Int:=k.pre++al.drop k.dl
theorem KC.Rf{k:KC}:(k.otl al).length=k.pre.length+(al.length-k.dl):=by unfold KC.otl;rw[vY,pL]
theorem KC.Rh{k:KC}(h:k.dl<=al.length):k.otl (al++ys)=k.otl al++ys:=by unfold KC.otl;rw[nZ h,vX]
def xk(k:KC)(al:List Int)(out:Value)(last:Bool)(l d:Value):MC:=⟨.pointer (some ⟨k.bw,0,none⟩),out,(k.room:Int)-((al.length-k.dl:Nat):Int),last,l,d⟩
structure IM(h0 h:qaA)(k:KC)(r:Rd)(al:List Int)(last:Bool)(l d:Value):Prop where
 mt:∃(p:Nat) (ao:Option Addr) (co:Nat),p<=8*k.bs.length/\(r.k=0->r.i=p)/\h k.bm=some (zX k.a k.c k.bs p (xk k al (.slice ao (k.otl al).length co) last l d) k.T) /\
  Part .u8 h (.slice ao (k.otl al).length co) (k.otl al)/\qaD (mkL h0 [k.bm,k.bw]) (.slice ao (k.otl al).length co)
 rg:RingAt h0 h k.bw k.TW k.sz (zB k.sz al)
 nm:h0 k.bm=none
 ne:k.bm≠k.bw
 sb:qaB h0 h
 le:k.dl<=al.length/\al.length<=k.dl+k.room/\k.pre.length<=100000
section
variable {k:KC}
theorem IM.xH(N:qaD (mkL h0 [k.bm,k.bw]) l){z:Nat}(hz:zh l=some z):z≠k.bm/\z≠k.bw/\h0 z=none:=by
 obtain⟨h1,h2⟩:=Au.1 (N z hz);simp only[uM,uO,pM,mZ]at h1;exact⟨h1.1,h1.2,h2⟩
theorem IM.Pm(H:IM h0 h k r al last l d){last':Bool}{l' d':Value}{p:Nat}{ao:Option Addr}{co:Nat}(hp:p<=8*k.bs.length)(hr:r'.k=0->r'.i=p)(P:Part .u8 h (.slice ao (k.otl al).length co) (k.otl al))(N:qaD (mkL h0 [k.bm,k.bw]) (.slice ao (k.otl al).length co)) :
  IM h0 (upd h k.bm (zX k.a k.c k.bs p (xk k al (.slice ao (k.otl al).length co) last' l' d') k.T)) k r' al last' l' d':=by
 obtain⟨dd,at_,n,hb,R,s,hn⟩:=H.rg;have sb:=xJ (o:=zX k.a k.c k.bs p (xk k al (.slice ao (k.otl al).length co) last' l' d') k.T) H.sb H.nm;exact⟨⟨p,ao,co,hp,hr,upd_same,P.keep fun z hz=>upd_ne (IM.xH N hz).1,N⟩,⟨dd,at_,n,(upd_ne (pN H.ne)).trans hb,R,sb,hn⟩,H.nm,H.ne,sb,H.le⟩
theorem DC(hi:qaC S h0)(G:Errs h0)(hx:zo h0 .u8 k.a k.bs)(L:k.bs.length<=1048576)(H:IM h0 h k r al last l d)(hk:r.k=0)(n:Nat)(hn:n<=32:=by omega) :
  zb oPP S yf #[.pointer (some ⟨k.bm,0,none⟩),.int .i64 n] h (fun v h'=>v=.tuple #[.int .i64 (tk k.bs n r).2,yh (tk k.bs n r).1.k]/\IM h0 h' k (tk k.bs n r).1 al last l d):=by
 obtain⟨p,ao,co,hp,hr,hb,P,N⟩:=H.mt;obtain⟨i,kk⟩:=r;obtain rfl:kk=0:=hk;obtain rfl:i=(p:Int):=hr rfl;refine zb.mono (Jm hi G hx L p hp n hn ⟨hb,H.nm,H.sb⟩) ?_;rintro _ h1 ⟨rfl,rfl⟩;have hp2:∃p2:Nat,p2<=8*k.bs.length/\(tk k.bs n ⟨(p:Int),0⟩).1.i=p2:=by
  unfold tk;rw[vP rfl];split
  ·exact⟨p,hp,rfl⟩
  ·rename_i h;simp only at h;exact⟨p+n,by omega,by simp only;omega⟩
 obtain⟨p2,hp2,e2⟩:=hp2;rw[e2];exact⟨rfl,H.Pm hp2 (fun _=>e2) P N⟩
theorem Hy{kk:IntKind}(H:zo h kk a xs)(hk:∀z,zh (.slice a n c)=some z->h' z=h z):zo h' kk a xs:=fun i x hx=>by
 obtain⟨ad,rfl,g1⟩:=H i x hx;have e:=hk ad.block rfl;have blk:∀n,(ad.add n).block=ad.block:=fun n=>by unfold Addr.add;split <;> rfl
 refine⟨ad,rfl,?_⟩;rw[<-g1];unfold Eng.zj;rw[show h' (ad.add _).block=h (ad.add _).block by rw[blk];exact e]
theorem Ri{m:MC}{p q:Int}(hb:h bm=some (zX a c bs p m T)):zQ h ⟨bm,4,none⟩ (.int .i64 q)=upd h bm (zX a c bs p ⟨m.w,m.out,q,m.last,m.l,m.d⟩ T):=by
 rw[hset_cells' hb];rfl
theorem Pn{m:MC}(hb:h bm=some (zX a c bs p m T)):zQ h ⟨bm,3,none⟩ v=upd h bm (zX a c bs p ⟨m.w,v,m.rm,m.last,m.l,m.d⟩ T):=by
 rw[hset_cells' hb];rfl
theorem U0(hi:qaC S h0)(G:ErrL h0)(hro:k.room<=200000)(hdl:k.dl<=40000)(H:IM h0 h k r al last l d)(hk:r.k=0){cd:Nat}(hy:zo h .u8 ad ys)(hyc:ys.length<=cd)(hyl:ys.length<=1000)(hyn:∀z,zh (.slice ad ys.length cd)=some z->z≠k.bm/\z≠k.bw/\(∀p ao co,h k.bm=some (zX k.a k.c k.bs p (xk k al (.slice ao (k.otl al).length co) last l d) k.T)->zh (.slice ao (k.otl al).length co)≠some z)) :
  zb oPP S jB #[.pointer (some ⟨k.bm,0,none⟩),.slice ad ys.length cd] h (fun v h'=>v=yh (tell k.dl k.room r al ys).1.k/\IM h0 h' k (tell k.dl k.room r al ys).1 (tell k.dl k.room r al ys).2 last l d):=by
 obtain⟨p,ao,co,hp,hr,hb,P,N⟩:=H.mt;refine E0 (vs:=[.pointer (some ⟨k.bm,0,none⟩),.slice ad ys.length cd]) ⟨rfl,rfl,trivial⟩ (hi.sub H.sb) ?_;simp only[AV,Tr.wp,z4,Ex.ev,coerce,toInt_int,za,zc,ze,zd,zf,zx,xb,z9,arith,Cst.val,SV.den,zn,zL,zz,zk,zy,zq,yk,vG,vA,vB,vL,vR,vD,vE,vI,vH,uD,uB,vW,uL,zu];obtain⟨g0,g1,g2,g3,g4,_⟩:=yO hb;have hsb:¬S k.bm:=fun hs=>hi k.bm hs H.nm
 refine⟨by simp,_,g4,fun hgt=>?_,fun hle=>?_⟩
 ·have hgt:k.room<al.length-k.dl+ys.length:=by simp only[xk]at hgt;have:=H.le;omega
  have et:tell k.dl k.room r al ys=(⟨r.i,6⟩,al):=by unfold tell;rw[vP hk,vP hgt]
  rw[et];refine⟨6,(G.sub H.sb).e6,rfl,?_⟩;have H':=H.Pm (r':=⟨r.i,6⟩) (last':=last) (l':=l) (d':=d) hp (fun h=>by cases h) P N;rwa[qR hb]at H'
 ·have hle:¬k.room<al.length-k.dl+ys.length:=by simp only[xk]at hle;have:=H.le;omega
  have et:tell k.dl k.room r al ys=(r,al++ys):=by unfold tell;rw[vP hk,vM hle]
  rw[et];have hrm:IntKind.i64.wrap ((xk k al (.slice ao (k.otl al).length co) last l d).rm-(ys.length:Int))=(k.room:Int)-(((al++ys).length-k.dl:Nat):Int):=by
   have:=H.le;simp only[xk,vY];rw[i64_in _ (by omega)];omega
  refine⟨by simp,_,g4,by simp,kS hb hsb g4,by simp,?_⟩;rw[hrm,Ri hb];obtain⟨h1,hh1⟩:∃h1,h1=upd h k.bm (zX k.a k.c k.bs p ⟨(xk k al (.slice ao (k.otl al).length co) last l d).w,(xk k al (.slice ao (k.otl al).length co) last l d).out,(k.room:Int)-(((al++ys).length-k.dl:Nat):Int),(xk k al (.slice ao (k.otl al).length co) last l d).last,(xk k al (.slice ao (k.otl al).length co) last l d).l,(xk k al (.slice ao (k.otl al).length co) last l d).d⟩ k.T):=⟨_,rfl⟩;rw[<-hh1];have hb1:h1 k.bm=some (zX k.a k.c k.bs p ⟨.pointer (some ⟨k.bw,0,none⟩),.slice ao (k.otl al).length co,(k.room:Int)-(((al++ys).length-k.dl:Nat):Int),last,l,d⟩ k.T):=by rw[hh1,upd_same];rfl
  obtain⟨_,_,_,q3,_⟩:=yO hb1;have hone:∀z,z≠k.bm->h1 z=h z:=fun z hz=>by rw[hh1];exact upd_ne hz
  have s1:qaB h0 h1:=by rw[hh1];exact xJ H.sb H.nm
  have P1:Part .u8 h1 (.slice ao (k.otl al).length co) (k.otl al):=P.keep fun z hz=>hone z (IM.xH N hz).1
  have hy1:zo h1 .u8 ad ys:=Hy (n:=ys.length) (c:=cd) hy fun z hz=>hone z (hyn z hz).1
  refine⟨_,_,_,q3,?_⟩;have hdl2:(k.otl al).length<=300000:=by rw[KC.Rf];have:=H.le;omega
  refine yA hi s1 P1 (fun z hz=>(IM.xH N hz).2.2) hy1 (by omega) fun v5 h5 o5 n5 s5 k5 r5=>?_
  obtain⟨a5,c5,rfl,_,_⟩:=o5.ints;simp only[zd,zc,ze];have hb5:h5 k.bm=some (zX k.a k.c k.bs p ⟨.pointer (some ⟨k.bw,0,none⟩),.slice ao (k.otl al).length co,(k.room:Int)-(((al++ys).length-k.dl:Nat):Int),last,l,d⟩ k.T):=(k5 k.bm (by rw[hb1];simp) (fun e=>(IM.xH N e).1 rfl)).trans hb1;obtain⟨_,_,_,w3,_⟩:=yO hb5;refine⟨by simp,kS hb5 hsb w3,by simp,?_⟩;rw[Pn hb5];obtain⟨h6,hh6⟩:∃h6,h6=upd h5 k.bm (zX k.a k.c k.bs p ⟨.pointer (some ⟨k.bw,0,none⟩),.slice a5 (k.otl al++ys).length c5,(k.room:Int)-(((al++ys).length-k.dl:Nat):Int),last,l,d⟩ k.T):=⟨_,rfl⟩;rw[<-hh6];have hb6:h6 k.bm=some (zX k.a k.c k.bs p ⟨.pointer (some ⟨k.bw,0,none⟩),.slice a5 (k.otl al++ys).length c5,(k.room:Int)-(((al++ys).length-k.dl:Nat):Int),last,l,d⟩ k.T):=by rw[hh6,upd_same]
  obtain⟨_,_,u2,_⟩:=yO hb6;have h65:∀z,z≠k.bm->h6 z=h5 z:=fun z hz=>by rw[hh6];exact upd_ne hz
  have s6:qaB h0 h6:=by rw[hh6];exact xJ s5 H.nm
  obtain⟨dd,at_,nn,hbw,R,sR,hnw⟩:=H.rg;have hbw1:h1 k.bw=some (yj k.sz dd at_ nn k.TW):=(hone k.bw (pN H.ne)).trans hbw;have hbw5:h5 k.bw=some (yj k.sz dd at_ nn k.TW):=(k5 k.bw (by rw[hbw1];simp) (fun e=>(IM.xH N e).2.1 rfl)).trans hbw1;have R6:RingAt h0 h6 k.bw k.TW k.sz (zB k.sz al):=⟨dd,at_,nn,(h65 k.bw (pN H.ne)).trans hbw5,R,s6,hnw⟩;have nv:∀z,zh (.slice a5 (k.otl al++ys).length c5)=some z->z≠k.bm/\z≠k.bw:=fun z hz=>by
   rcases r5 with r5 | r5
   ·have:=IM.xH N (r5▸hz);exact⟨this.1,this.2.1⟩
   ·have:=r5 z hz;exact⟨fun e=>(by rw[e,hb1]at this;cases this),fun e=>(by rw[e,hbw1]at this;cases this)⟩
  have hy6:zo h6 .u8 ad ys:=by
   by_cases hys:ys=[]
   ·rw[hys];exact fun i x hx=>by simp at hx
   refine Hy (n:=ys.length) (c:=cd) hy1 fun z hz=>?_
   obtain⟨z1,z2,z3⟩:=hyn z hz;rw[h65 z z1];refine k5 z ?_ (z3 p ao co hb);obtain⟨y0,hy0⟩:∃y0,ys[0]? = some y0:=by
    cases ys with
    | nil=>exact absurd rfl hys
    | cons y0 yr=>exact⟨y0,rfl⟩
   obtain⟨ad',e',g'⟩:=hy1 0 y0 hy0;rw[e']at hz;have ez:ad'.block=z:=by simpa[zh]using hz
   rw[<-ez];intro hn;unfold Eng.zj at g';have blk:(ad'.add 0).block=ad'.block:=by unfold Addr.add;split <;> rfl
   rw[blk,hn]at g';cases g'
  refine⟨_,u2,?_⟩;refine zb.mono (Sq hi R6 ad cd ys hyc (by omega) fun h' hh=>Hy (n:=ys.length) (c:=cd) hy6 fun z hz=>hh z (hyn z hz).2.1) ?_;rintro _ h7 ⟨rfl,R7,hk7⟩;rw[BW]at R7;have ed:k.otl (al++ys)=k.otl al++ys:=KC.Rh H.le.1;refine⟨rfl,by rw[hk];rfl,⟨p,a5,c5,hp,hr,?_,?_,?_⟩,R7,H.nm,H.ne,R7.sub,?_⟩
  ·rw[hk7 k.bm H.ne,hb6,ed];rfl
  ·rw[ed];exact o5.keep fun z hz=>(hk7 z (nv z hz).2).trans (h65 z (nv z hz).1)
  ·rw[ed];exact fun z hz=>Au.2 ⟨by simp[(nv z hz).1,(nv z hz).2],n5 z hz⟩
  ·have:=H.le;simp only[vY];omega
end
end
section
def fnV(k:KC)(f:Nat):Value:=.func (.func f) #[.pointer (some ⟨k.bm,0,none⟩)] #[]
def cont(k:KC)(F f:Nat)(last:Bool)(X:Rd×List Int):Rd×List Int:=if last=true then X else blF k.bs k.dl k.room k.sz F f X.1 X.2
theorem jb{k:KC}{F f:Nat}{X:Rd×List Int}(h:X.1.k≠0):cont k F f last X=X:=by
 unfold cont;split
 ·rfl
 ·exact BB h
def Po(h0 hb:qaA)(l d:Value)(cl cd:List (Nat×Nat)):Prop:=
 ∃(b1 b2:Nat) (T1 P1 T2 P2:List (Nat×Nat)) (a1 a2:Option Addr) (c1 c2:Nat),l=.pointer (some ⟨b1,0,none⟩)/\d=.pointer (some ⟨b2,0,none⟩) /\
  TabV h0 hb b1 T1 P1 a1 c1 (Em cl cl.length) (Ym cl cl.length)/\TabV h0 hb b2 T2 P2 a2 c2 (Em cd cd.length) (Ym cd cd.length)/\T1.length<=20000/\T2.length<=20000/\(∀c∈cl,c.1<=15)/\(∀c∈cd,c.1<=15)/\cl.length<=1000/\cd.length<=1000
def mz(k:KC)(r:Rd):Nat:=4*(8*(k.bs.length:Int)+8-r.i).toNat
theorem Ih{k:KC}{r rr:Rd}{m:Nat}(h:r.i+m<=rr.i)(h2:rr.i<=8*(k.bs.length:Int)):mz k rr+4*m<=mz k r:=by unfold mz;omega
def Zt (h0 hb : qaA) (k : KC) (F : Nat) (Fin : Rd × List Int) (v : Value) (r : Rd) (al : List Int) (last : Bool) (l d : Value) (n : Nat) : Prop :=
  ∃ f : Nat, 8 * (k.bs.length : Int) + 1 <= r.i + f /\
   ((v = fnV k yq /\ n = mz k r + 0 /\ Fin = blF k.bs k.dl k.room k.sz F f r al) \/
    (v = fnV k jd /\ n = mz k r + 3 /\ Fin = cont k F f last (stF k.bs k.dl k.room r al)) \/
    (v = fnV k ji /\ n = mz k r + 3 /\ Fin = cont k F f last (syF k.bs (zl yV) (zl kU) k.dl k.room k.sz F r al)) \/
    (v = fnV k xT /\ n = mz k r + 3 /\ Fin = cont k F f last (if (zN k.bs r).1.k ≠ 0 then ((zN k.bs r).1, al) else syF k.bs (zl (zN k.bs r).2.1) (zl (zN k.bs r).2.2) k.dl k.room k.sz F (zN k.bs r).1 al)) \/
    (v = fnV k yG /\ n = mz k r + 2 /\ ∃ (cl cd : List (Nat × Nat)) (f' : Nat), Po h0 hb l d cl cd /\ 8 * (k.bs.length : Int) + 1 <= r.i + f' /\ Fin = cont k F f last (syF k.bs cl cd k.dl k.room k.sz f' r al)) \/
    (v = fnV k x8 /\ n = mz k r + 1 /\ Fin = cont k F f last (r, al)) \/
    (v = .nilFunc /\ n = mz k r + 0 /\ Fin = (r, al)))
def Eh(h0:qaA)(k:KC)(F:Nat)(Fin:Rd×List Int)(B:Nat)(v:Value)(h':qaA):Prop:=
 ∃(nx:Value) (rr:Rd) (al':List Int) (hb:qaA) (last:Bool) (l d:Value),v=.tuple #[nx,yh rr.k]/\qaB h0 hb/\IM hb h' k rr al' last l d/\okR k.bs rr /\
  (rr.k≠0->Fin=(rr,al')/\(nx=.nilFunc\/∃f,nx=fnV k f))/\(rr.k=0->∃n,n<B/\Zt h0 hb k F Fin nx rr al' last l d n)
section
variable {k:KC}{Fin:Rd × List Int}
theorem Wi(hi:qaC S h0)(sb:qaB h0 hb)(H:IM hb h k r al last l d)(hk:r.k=0)(ok:okR k.bs r)(f:Nat)(hf:8*(k.bs.length:Int)+1<=r.i+f)(hB:mz k r+1<=B)(hF:Fin=cont k F f last (r,al)) :
  zb oPP S x8 #[.pointer (some ⟨k.bm,0,none⟩)] h (Eh h0 k F Fin B):=by
 refine Dr (vs:=[.pointer (some ⟨k.bm,0,none⟩)]) ⟨rfl,trivial⟩ (hi.sub (sb.trans H.sb)) ?_;simp only[Ac,Tr.wp,Ex.ev,coerce,za,zf,zx,xb,Cst.val,SV.den,zy,zq,vA,vB,vD,vE,vI,vH,uD,uB,vW,vV,vK,zu];obtain⟨p,ao,co,hp,hr,hbm,P,N⟩:=H.mt;obtain⟨_,_,_,_,_,g5,_⟩:=yO hbm;have ez:yh r.k=.nilIface:=by rw[hk];rfl
 refine⟨by simp,last,g5,fun hl=>?_,fun hl=>?_⟩
 ·refine⟨.nilFunc,r,al,hb,last,l,d,by rw[ez],sb,H,ok,fun h=>absurd hk h,fun _=>⟨_,(by omega:mz k r+0<B),f,hf,.inr (.inr (.inr (.inr (.inr (.inr ⟨rfl,rfl,?_⟩)))))⟩⟩;rw[hF,cont,vP hl]
 ·refine⟨fnV k yq,r,al,hb,last,l,d,by rw[ez];rfl,sb,H,ok,fun h=>absurd hk h,fun _=>⟨_,(by omega:mz k r+0<B),f,hf,.inl ⟨rfl,rfl,?_⟩⟩⟩;rw[hF,cont,vM (by rw[hl];decide)]
theorem U1(h:r.k≠0):tk bs n r=(r,0):=by unfold tk;rw[vM h]
theorem Cg(h:r.k≠0):bd w r=r:=by unfold bd;rw[vM (fun e=>h e.1)]
theorem U3{m:MC}(hb:h bm=some (zX a c bs p m T)):zQ h ⟨bm,5,none⟩ (.bool w)=upd h bm (zX a c bs p ⟨m.w,m.out,m.rm,w,m.l,m.d⟩ T):=by
 rw[hset_cells' hb];rfl
theorem IM.Ii(H:IM hb h k r al last l d)(hr:r'.k≠0):IM hb h k r' al last l d:=by
 obtain⟨p,ao,co,hp,_,hbm,P,N⟩:=H.mt;exact⟨⟨p,ao,co,hp,fun h=>absurd h hr,hbm,P,N⟩,H.rg,H.nm,H.ne,H.sb,H.le⟩
theorem IM.XZ(H:IM hb h k r al last l d)(w:Bool)(hsb:¬S k.bm):xE S h ⟨k.bm,5,none⟩/\IM hb (zQ h ⟨k.bm,5,none⟩ (.bool w)) k r al w l d:=by
 obtain⟨p,ao,co,hp,hr,hbm,P,N⟩:=H.mt;obtain⟨_,_,_,_,_,g5,_⟩:=yO hbm;refine⟨kS hbm hsb g5,?_⟩;rw[U3 hbm];exact H.Pm hp hr P N
theorem Ya(hi:qaC S h0)(G:Errs h0)(hx:zo h0 .u8 k.a k.bs)(L:k.bs.length<=1048576)(sb:qaB h0 hb)(H:IM hb h k r al last l d)(hk:r.k=0)(ok:okR k.bs r)(f:Nat)(hf:8*(k.bs.length:Int)+1<=r.i+f)(hB:mz k r+0<=B)(hF:Fin=blF k.bs k.dl k.room k.sz F f r al) :
  zb oPP S yq #[.pointer (some ⟨k.bm,0,none⟩)] h (Eh h0 k F Fin B):=by
 refine DI (vs:=[.pointer (some ⟨k.bm,0,none⟩)]) ⟨rfl,trivial⟩ (hi.sub (sb.trans H.sb)) ?_;simp only[A0,Tr.wp,z4,Ex.ev,coerce,toInt_int,za,zf,zx,xb,z9,Cst.val,SV.den,zn,zL,zz,zk,zi,zy,zq,yk,vF,vG,vA,vB,vD,vE,vI,vH,vJ,uC,uG,uD,uB,vW,uL,vV,vK,zu];have hib:=hi.sub sb;have hsb:¬S k.bm:=fun hs=>hib k.bm hs H.nm
 have hpos:=ok hk;obtain⟨f',rfl⟩:∃f',f=f'+1:=⟨f-1,by omega⟩;have eF:Fin=cont k F f' ((bk1 k.bs r).2==1) (blk k.bs k.dl k.room k.sz F r al):=by
  rw[hF,blF,vP hk];have n1:=yp (bs:=k.bs) (n:=1) (r:=r);have q1:(2:Int)^1=2:=by decide
  have e1:(tk k.bs 1 r).2=(bk1 k.bs r).2:=rfl;rw[e1,q1]at n1;unfold cont;by_cases h1:(bk1 k.bs r).2=1
  ·rw[vP (show(bk1 k.bs r).2≠0 by omega),vP (by rw[h1];rfl)]
  ·rw[vM (show ¬(bk1 k.bs r).2≠0 by omega),vM (by simpa using h1)]
 have ok1:okR k.bs (bk1 k.bs r).1:=y7 ok;refine zb.mono (DC hib (G.sub sb) (hx.sub sb) L H hk 1) ?_;rintro _ h1 ⟨rfl,H1⟩;refine⟨_,yh (tk k.bs 1 r).1.k,zg,by rw[zg],fun hz=>?_,fun hz=>?_⟩
 ·rw[zg,zP]at hz;have hk1:(bk1 k.bs r).1.k≠0:=by simpa[bk1]using hz
  refine⟨.nilFunc,(bk1 k.bs r).1,al,hb,last,l,d,by rw[zg];rfl,sb,H1,ok1,fun _=>⟨?_,.inl rfl⟩,fun h=>absurd h hk1⟩;have e2:bk2 k.bs r=((bk1 k.bs r).1,0):=U1 hk1;have e3:bk3 k.bs r=(bk1 k.bs r).1:=by unfold bk3;rw[e2];exact Cg hk1
  have eb:blk k.bs k.dl k.room k.sz F r al=((bk1 k.bs r).1,al):=by unfold blk;rw[e3,vP hk1]
  rw[eF,eb,jb hk1]
 ·rw[zg,zP]at hz;have hk1:(bk1 k.bs r).1.k=0:=by simpa[bk1]using hz
  obtain⟨oc,H2⟩:=H1.XZ (S:=S) ((tk k.bs 1 r).2==1) hsb;refine⟨by simp,oc,?_⟩;refine zb.mono (DC hib (G.sub sb) (hx.sub sb) L H2 hk1 2) ?_;rintro _ h3 ⟨rfl,H3⟩;have ok2:okR k.bs (bk2 k.bs r).1:=y7 ok1;have n2:=yp (bs:=k.bs) (n:=2) (r:=(bk1 k.bs r).1);have q2:(2:Int)^2=4:=by decide
  have e2:tk k.bs 2 (tk k.bs 1 r).1=bk2 k.bs r:=rfl;have e2':tk k.bs 2 (bk1 k.bs r).1=bk2 k.bs r:=rfl;have e1:(tk k.bs 1 r).2=(bk1 k.bs r).2:=rfl;rw[e2',q2]at n2;rw[e2,e1]at H3;rw[e2];refine⟨_,yh (bk2 k.bs r).1.k,zg,by rw[zg],fun hz=>?_,fun hz=>?_⟩
  ·rw[zg,zP]at hz;have hk2:(bk2 k.bs r).1.k≠0:=by simpa using hz
   refine⟨.nilFunc,(bk2 k.bs r).1,al,hb,_,l,d,by rw[zg],sb,H3,ok2,fun _=>⟨?_,.inl rfl⟩,fun h=>absurd h hk2⟩;have e3:bk3 k.bs r=(bk2 k.bs r).1:=Cg hk2;have eb:blk k.bs k.dl k.room k.sz F r al=((bk2 k.bs r).1,al):=by unfold blk;rw[e3,vP hk2]
   rw[eF,eb,jb hk2]
  ·rw[zg,zP]at hz;have hk2:(bk2 k.bs r).1.k=0:=by simpa using hz
   have ez:yh (bk2 k.bs r).1.k=.nilIface:=by rw[hk2];rfl
   have good:(bk2 k.bs r).2≠3->bk3 k.bs r=(bk2 k.bs r).1/\8*(k.bs.length:Int)+1<=(bk2 k.bs r).1.i+f'/\mz k (bk2 k.bs r).1+3<B:=fun h=>by
    have e3:bk3 k.bs r=(bk2 k.bs r).1:=by unfold bk3 bd;rw[vM (fun e=>h (by simpa using e.2))]
    have:=KL (bs:=k.bs) (r:=r) (by rw[e3];exact hk2);rw[e3]at this;have hm:=Ih (k:=k) (r:=r) (rr:=(bk2 k.bs r).1) (m:=3) (by omega) (ok2 hk2).2;exact⟨e3,by push_cast at hf;omega,by omega⟩
   refine⟨fun h0=>?_,fun h0=>⟨fun h1'=>?_,fun h1'=>⟨fun h2'=>?_,fun h2'=>?_⟩⟩⟩
   ·have h0:(bk2 k.bs r).2=0:=uK.1 h0;obtain⟨e3,hf2,hm2⟩:=good (by omega);refine⟨fnV k jd,(bk2 k.bs r).1,al,hb,_,l,d,by rw[ez];rfl,sb,H3,ok2,fun h=>absurd hk2 h,fun _=>⟨_,hm2,f',hf2,.inr (.inl ⟨rfl,rfl,?_⟩)⟩⟩;rw[eF];congr 1;unfold blk;rw[e3,vM (show ¬(bk2 k.bs r).1.k≠0 from fun h=>h hk2),vP h0]
   ·have h0:(bk2 k.bs r).2≠0:=by simpa using h0
    have h1':(bk2 k.bs r).2=1:=uK.1 h1';obtain⟨e3,hf2,hm2⟩:=good (by omega);refine⟨fnV k ji,(bk2 k.bs r).1,al,hb,_,l,d,by rw[ez];rfl,sb,H3,ok2,fun h=>absurd hk2 h,fun _=>⟨_,hm2,f',hf2,.inr (.inr (.inl ⟨rfl,rfl,?_⟩))⟩⟩;rw[eF];congr 1;unfold blk;rw[e3,vM (show ¬(bk2 k.bs r).1.k≠0 from fun h=>h hk2),vM h0,vP h1']
   ·have h0:(bk2 k.bs r).2≠0:=by simpa using h0
    have h1':(bk2 k.bs r).2≠1:=by simpa using h1'
    have h2':(bk2 k.bs r).2=2:=uK.1 h2';obtain⟨e3,hf2,hm2⟩:=good (by omega);refine⟨fnV k xT,(bk2 k.bs r).1,al,hb,_,l,d,by rw[ez];rfl,sb,H3,ok2,fun h=>absurd hk2 h,fun _=>⟨_,hm2,f',hf2,.inr (.inr (.inr (.inl ⟨rfl,rfl,?_⟩)))⟩⟩;rw[eF];congr 1;unfold blk;rw[e3,vM (show ¬(bk2 k.bs r).1.k≠0 from fun h=>h hk2),vM h0,vM h1']
   ·have h0:(bk2 k.bs r).2≠0:=by simpa using h0
    have h1':(bk2 k.bs r).2≠1:=by simpa using h1'
    have h2':(bk2 k.bs r).2≠2:=by simpa using h2'
    have e3:bk3 k.bs r=⟨(bk2 k.bs r).1.i,3⟩:=by unfold bk3 bd;rw[vP ⟨hk2,by rw[show(bk2 k.bs r).2=3 by omega];rfl⟩]
    refine⟨3,((G.sub sb).sub H3.sb).e3,.nilFunc,⟨(bk2 k.bs r).1.i,3⟩,al,hb,_,l,d,rfl,sb,H3.Ii (show(3:Int)≠0 by decide),fun h=>(by cases h),fun _=>⟨?_,.inl rfl⟩,fun h=>(by cases h)⟩;have eb:blk k.bs k.dl k.room k.sz F r al=(⟨(bk2 k.bs r).1.i,3⟩,al):=by unfold blk;rw[e3,vP (show(3:Int)≠0 by decide)]
    rw[eF,eb,jb (show(3:Int)≠0 by decide)]
end
end
section
section
variable {k:KC}{Fin:Rd × List Int}
theorem Rj(hi:qaC S hb)(L:k.bs.length<=1048576)(H:IM hb h k r al last l d)(hk:r.k=0) :
  zb oPP S jj #[.pointer (some ⟨k.bm,0,none⟩)] h (fun v h'=>v=.tuple #[]/\IM hb h' k (alg r) al last l d):=by
 refine DH (vs:=[.pointer (some ⟨k.bm,0,none⟩)]) ⟨rfl,trivial⟩ (hi.sub H.sb) ?_;simp only[Az,Tr.wp,Ex.ev,coerce,toInt_int,za,zf,zx,xb,arith,Cst.val,SV.den,zy,zq,yk,vA,vB,vD,vE,vI,vH,uD,uB,vW,pF,zu];obtain⟨p,ao,co,hp,hr,hbm,P,N⟩:=H.mt;obtain⟨_,g1,_⟩:=yO hbm;have hsb:¬S k.bm:=fun hs=>hi k.bm hs H.nm
 have w:IntKind.i64.wrap (IntKind.i64.wrap ((IntKind.i64.wrap ((p:Int)+7)).tdiv 8)*8)=(((p+7)/8*8:Nat):Int):=by
  rw[i64_in ((p:Int)+7) (by omega),uQ (by omega),i64_in (((p:Int)+7)/8) (by omega),i64_in _ (by omega)];omega
 refine⟨by simp,p,g1,by simp,kS hbm hsb g1,?_⟩;rw[w,MW hbm];have ea:alg r=⟨(r.i+7)/8*8,0⟩:=vP hk;exact H.Pm (r':=alg r) (p:=(p+7)/8*8) (by omega) (fun _=>by rw[ea];have:=hr hk;simp only;omega) P N
theorem IM.sub(H:IM hb h k r al last l d)(s:qaB h h'):IM hb h' k r al last l d:=by
 obtain⟨p,ao,co,hp,hr,hbm,P,N⟩:=H.mt;exact⟨⟨p,ao,co,hp,hr,s _ _ hbm,P.sub s,N⟩,H.rg.mono s,H.nm,H.ne,H.sb.trans s,H.le⟩
theorem IM.fresh(H:IM hb h k r al last l d)(hbn:h b=none){o:Obj}:∀z,zh (.slice (some ⟨b,0,none⟩) n c)=some z->z≠k.bm/\z≠k.bw/\(∀p ao co,upd h b o k.bm=some (zX k.a k.c k.bs p (xk k al (.slice ao (k.otl al).length co) last l d) k.T)->zh (.slice ao (k.otl al).length co)≠some z):=fun z hz=>by
 obtain rfl:b=z:=by simpa[zh]using hz
 obtain⟨p,ao,co,hp,hr,hbm,P,N⟩:=H.mt;obtain⟨dd,at_,nn,hbw,_,_,_⟩:=H.rg;have n1:b≠k.bm:=fun e=>by rw[e,hbm]at hbn;cases hbn
 have n2:b≠k.bw:=fun e=>by rw[e,hbw]at hbn;cases hbn
 refine⟨n1,n2,fun p' ao' co' e hz=>?_⟩;rw[upd_ne (pN n1),hbm]at e;simp[zX,xk]at e;obtain⟨_,e1,e2⟩:=e;subst e1;subst e2;exact tB.Oheld P (show tB.B _ b from hz) hbn
theorem Fj(h:r.k≠0):stL bs dl room n r al=(r,al):=by
 cases n with
 | zero=>rfl
 | succ n=>rw[stL,vM h]
theorem Wj(h:r.k≠0):tell dl room r al ys=(r,al):=by unfold tell;rw[vM h]
theorem Wk(hi:qaC S h0)(G:ErrL h0)(hro:k.room<=200000)(hdl:k.dl<=40000)(hx:zo h0 .u8 k.a k.bs)(L:k.bs.length<=1048576)(sb:qaB h0 hb)(H:IM hb h k r al last l d)(hk:r.k=0)(ok:okR k.bs r)(f:Nat)(hf:8*(k.bs.length:Int)+1<=r.i+f)(hB:mz k r+3<=B)(hF:Fin=cont k F f last (stF k.bs k.dl k.room r al)) :
  zb oPP S jd #[.pointer (some ⟨k.bm,0,none⟩)] h (Eh h0 k F Fin B):=by
 refine Dq (vs:=[.pointer (some ⟨k.bm,0,none⟩)]) ⟨rfl,trivial⟩ (hi.sub (sb.trans H.sb)) ?_;simp only[Ab,Tr.wp,z4,Ex.ev,coerce,toInt_int,za,zc,ze,zd,zf,zx,z9,arith,Cst.val,SV.den,zn,zL,zz,zk,zi,zy,zV,zq,vF,vG,vA,vB,vC,vQ,vL,vR,vD,vE,vI,vH,vJ,uC,uG,uD,uB,vW,uL,vV,vK,zu];have hib:=hi.sub sb;have Gb:=G.sub sb;have hxb:=hx.sub sb;have ok0:=Bg ok;have hk0:(alg r).k=0:=by unfold alg;rw[vP hk]
 have n16:=yp (bs:=k.bs) (n:=16) (r:=alg r);have q16:(2:Int)^16=65536:=by decide
 refine zb.mono (Rj hib L H hk) ?_;rintro _ h1 ⟨rfl,H1⟩;refine⟨rfl,?_⟩;refine zb.mono (DC hib Gb.es hxb L H1 hk0 16) ?_;rintro _ h2 ⟨rfl,H2⟩;have ok1:okR k.bs (tk k.bs 16 (alg r)).1:=y7 ok0;refine⟨_,yh (tk k.bs 16 (alg r)).1.k,zg,by rw[zg],fun hz=>?_,fun hz=>?_⟩
 ·rw[zg,zP]at hz;have hk1:(tk k.bs 16 (alg r)).1.k≠0:=by simpa using hz
  refine⟨.nilFunc,_,al,hb,last,l,d,by rw[zg],sb,H2,ok1,fun _=>⟨?_,.inl rfl⟩,fun h=>absurd h hk1⟩;have e2:stR k.bs r=(tk k.bs 16 (alg r)).1:=by unfold stR;rw[U1 hk1];exact Cg hk1
  have es:stF k.bs k.dl k.room r al=((tk k.bs 16 (alg r)).1,al):=by unfold stF;rw[e2,Fj hk1]
  rw[hF,es,jb hk1]
 rw[zg,zP]at hz;have hk1:(tk k.bs 16 (alg r)).1.k=0:=by simpa using hz
 refine zb.mono (DC hib Gb.es hxb L H2 hk1 16) ?_;rintro _ h3 ⟨rfl,H3⟩;have ok2:okR k.bs (tk k.bs 16 (tk k.bs 16 (alg r)).1).1:=y7 ok1;refine⟨_,yh (tk k.bs 16 (tk k.bs 16 (alg r)).1).1.k,zg,by rw[zg],fun hz=>?_,fun hz=>?_⟩
 ·rw[zg,zP]at hz;have hk2:(tk k.bs 16 (tk k.bs 16 (alg r)).1).1.k≠0:=by simpa using hz
  refine⟨.nilFunc,_,al,hb,last,l,d,by rw[zg],sb,H3,ok2,fun _=>⟨?_,.inl rfl⟩,fun h=>absurd h hk2⟩;have e2:stR k.bs r=(tk k.bs 16 (tk k.bs 16 (alg r)).1).1:=Cg hk2;have es:stF k.bs k.dl k.room r al=((tk k.bs 16 (tk k.bs 16 (alg r)).1).1,al):=by unfold stF;rw[e2,Fj hk2]
  rw[hF,es,jb hk2]
 rw[zg,zP]at hz;have hk2:(tk k.bs 16 (tk k.bs 16 (alg r)).1).1.k=0:=by simpa using hz
 have w1:IntKind.i64.wrap (65535-(tk k.bs 16 (alg r)).2)=65535-(tk k.bs 16 (alg r)).2:=i64_in _ (by omega);rw[w1];have eR:stR k.bs r=bd ((tk k.bs 16 (tk k.bs 16 (alg r)).1).2 != 65535-(tk k.bs 16 (alg r)).2) (tk k.bs 16 (tk k.bs 16 (alg r)).1).1:=rfl;refine⟨fun hne=>?_,fun heq=>?_⟩
 ·have e3:stR k.bs r=⟨(tk k.bs 16 (tk k.bs 16 (alg r)).1).1.i,3⟩:=by rw[eR];unfold bd;rw[vP ⟨hk2,hne⟩]
  have es:stF k.bs k.dl k.room r al=(⟨(tk k.bs 16 (tk k.bs 16 (alg r)).1).1.i,3⟩,al):=by unfold stF;rw[e3,Fj (show(3:Int)≠0 by decide)]
  refine⟨3,(Gb.sub H3.sb).es.e3,.nilFunc,⟨(tk k.bs 16 (tk k.bs 16 (alg r)).1).1.i,3⟩,al,hb,last,l,d,rfl,sb,H3.Ii (show(3:Int)≠0 by decide),fun h=>(by cases h),fun _=>⟨?_,.inl rfl⟩,fun h=>(by cases h)⟩;rw[hF,es,jb (show(3:Int)≠0 by decide)]
 have e3:stR k.bs r=(tk k.bs 16 (tk k.bs 16 (alg r)).1).1:=by rw[eR];unfold bd;rw[vM (fun h=>by rw[heq]at h;cases h.2)]
 have hR:le2 r (stR k.bs r):=((Ur.trans xq).trans xq).trans xj;obtain⟨n,hn⟩:∃n:Nat,n=(stN k.bs r).toNat:=⟨_,rfl⟩;have en:(tk k.bs 16 (alg r)).2=(n:Int):=by rw[hn];unfold stN;omega
 have hnl:n<65536:=by omega
 rw[<-e3]at H3 ok2 hk2;rw[en];have eSt:stF k.bs k.dl k.room r al=stL k.bs k.dl k.room n (stR k.bs r) al:=by unfold stF;rw[hn]
 refine⟨fun us h'=>∃(j:Nat) (r':Rd) (al':List Int),us=[.int .i64 j]/\j<=n/\r'.k=0/\okR k.bs r'/\IM hb h' k r' al' last l d/\le2 r r'/\stF k.bs k.dl k.room r al=stL k.bs k.dl k.room (n-j) r' al',fun us _=>n-(toInt (us.getD 0 undef)).toNat,⟨0,stR k.bs r,al,rfl,by omega,hk2,ok2,H3,hR,eSt⟩,?_⟩;rintro y h' ⟨j,r',al',hx1,hj,hk',ok',H',hle',e'⟩;simp only[uJ,uP,pF,vW]at hx1;subst hx1;refine⟨fun hlt=>?_,fun hge=>?_⟩
 ·have hlt:j<n:=by omega
  have n8:=yp (bs:=k.bs) (n:=8) (r:=r');have q8:(2:Int)^8=256:=by decide
  have el:stF k.bs k.dl k.room r al=stL k.bs k.dl k.room (n-(j+1)) (tell k.dl k.room (tk k.bs 8 r').1 al' [(tk k.bs 8 r').2]).1 (tell k.dl k.room (tk k.bs 8 r').1 al' [(tk k.bs 8 r').2]).2:=by
   rw[e',show n-j=(n-(j+1))+1 by omega,stL,vP hk']
  refine zb.mono (DC hib Gb.es hxb L H' hk' 8) ?_;rintro _ h4 ⟨rfl,H4⟩;have ok4:okR k.bs (tk k.bs 8 r').1:=y7 ok';refine⟨_,yh (tk k.bs 8 r').1.k,zg,by rw[zg],fun hz=>?_,fun hz b hbn=>?_⟩
  ·rw[zg,zP]at hz;have hk4:(tk k.bs 8 r').1.k≠0:=by simpa using hz
   refine⟨.nilFunc,_,al',hb,last,l,d,by rw[zg],sb,H4,ok4,fun _=>⟨?_,.inl rfl⟩,fun h=>absurd h hk4⟩;rw[hF,el,Wj hk4,Fj hk4,jb hk4]
  ·rw[zg,zP]at hz;have hk4:(tk k.bs 8 r').1.k=0:=by simpa using hz
   have wb:IntKind.u8.wrap (tk k.bs 8 r').2=(tk k.bs 8 r').2:=by rw[mP];omega
   rw[wb];have H5:=H4.sub (Sub.zC (o:=.cells (ints .u8 [(tk k.bs 8 r').2]) 5) hbn);refine zb.mono (U0 hib Gb hro hdl H5 hk4 (ad:=some ⟨b,0,none⟩) (cd:=1) (ys:=[(tk k.bs 8 r').2]) zo.new (by simp) (by simp) (H4.fresh hbn)) ?_;rintro _ h6 ⟨rfl,H6⟩;refine⟨yh (tell k.dl k.room (tk k.bs 8 r').1 al' [(tk k.bs 8 r').2]).1.k,zg,by rw[zg],fun hz=>?_,fun hz=>?_⟩
   ·rw[zg,zP]at hz;have hk6:(tell k.dl k.room (tk k.bs 8 r').1 al' [(tk k.bs 8 r').2]).1.k≠0:=by simpa using hz
    refine⟨.nilFunc,_,_,hb,last,l,d,by rw[zg],sb,H6,wN ok4,fun _=>⟨?_,.inl rfl⟩,fun h=>absurd h hk6⟩;rw[hF,el,Fj hk6,jb hk6]
   ·rw[zg,zP]at hz;have hk6:(tell k.dl k.room (tk k.bs 8 r').1 al' [(tk k.bs 8 r').2]).1.k=0:=by simpa using hz
    have wj:IntKind.i64.wrap ((j:Int)+1)=((j+1:Nat):Int):=zr;rw[wj];exact⟨⟨j+1,_,_,rfl,by omega,hk6,wN ok4,H6,(hle'.trans xq).trans AA,el⟩,by simp only[vA,toInt_int,vN];omega⟩
 ·obtain rfl:j=n:=by omega
  have ez:yh r'.k=.nilIface:=by rw[hk'];rfl
  refine⟨fnV k x8,r',al',hb,last,l,d,by rw[ez];rfl,sb,H',ok',fun h=>absurd hk' h,fun _=>⟨_,(by have hm:=Ih (k:=k) (r:=r) (rr:=r') (m:=0) (by have:=(hle' hk').2;omega) (ok' hk').2;omega:mz k r'+1<B),f,by have:=(hle' hk').2;omega,.inr (.inr (.inr (.inr (.inr (.inl ⟨rfl,rfl,?_⟩)))))⟩⟩;rw[hF,e',mB];rfl
end
end
section
def wo(h:qaA)(ls:List Nat):qaA:=fun b=>if b∈ls then none else h b
theorem Ob:qaB (wo h ls) h:=fun b o e=>by
 unfold wo at e;split at e
 ·cases e
 ·exact e
theorem Sx{g:qaA}(s:qaB g h)(hn:∀b∈ls,g b=none):qaB g (wo h ls):=fun b o e=>by
 unfold wo;rw[vM (fun hb=>by rw[hn b hb]at e;cases e)];exact s b o e
theorem KR(hb:b∈ls):wo h ls b=none:=vP hb
theorem Pp(hb:b∉ls):wo h ls b=h b:=vM hb
theorem TabV.up{T P:List (Nat×Nat)}{E:Nat->Nat->Prop}(H:TabV g1 g2 b T P a c E Y){g0:qaA}(hn:∀z,g1 z=none->g0 z=none)(hs:∀z,z=b\/zh (.slice a T.length c)=some z->g3 z=g2 z)(s:qaB g0 g3):TabV g0 g3 b T P a c E Y:=
 ⟨by obtain⟨TY,hb⟩:=H.hb;exact⟨TY,(hs b (.inl rfl)).trans hb⟩,H.ow.keep fun z hz=>hs z (.inr hz),fun z hz=>hn z (H.nw z hz),hn b H.nb,H.ne,H.ti,s⟩
theorem TabV.Sy{T P:List (Nat×Nat)}{E:Nat->Nat->Prop}(H:TabV g1 g2 b T P a c E Y)(s:qaB g2 g3):TabV g1 g3 b T P a c E Y:=by
 refine H.up (fun _ h=>h) (fun z hz=>?_) (H.sb.trans s);rcases hz with rfl | hz
 ·obtain⟨TY,hb⟩:=H.hb;rw[hb];exact s _ _ hb
 ·have:=H.ow.held z hz;cases e:g2 z with
  | none=>exact absurd e this
  | some o=>exact s _ _ e
theorem Wl{m:MC}{v w:Value}(hb:h bm=some (zX a c bs p m T)):zQ (zQ h ⟨bm,6,none⟩ v) ⟨bm,7,none⟩ w=upd h bm (zX a c bs p ⟨m.w,m.out,m.rm,m.last,v,w⟩ T):=by
 rw[hset_cells' hb];have hb2:upd h bm (.cells (#[.slice a bs.length c,.int .i64 p,m.w,m.out,.int .i64 m.rm,.bool m.last,m.l,m.d].setIfInBounds 6 v) T) bm=some (zX a c bs p ⟨m.w,m.out,m.rm,m.last,v,m.d⟩ T):=by rw[upd_same];rfl
 rw[hset_cells' hb2,xw];rfl
section
variable {k:KC}{Fin:Rd × List Int}
theorem IM.Xb{h2:qaA}(H:IM hb h k r al last l d)(sb:qaB h0 hb)(s12:qaB h h2){b1 b2:Nat}{T1 P1 T2 P2:List (Nat×Nat)}{a1 a2:Option Addr}{c1 c2:Nat}
  (V1:TabV h h2 b1 T1 P1 a1 c1 (Em cl cl.length) (Ym cl cl.length))(V2:TabV h h2 b2 T2 P2 a2 c2 (Em cd cd.length) (Ym cd cd.length))(t1:T1.length<=20000)(t2:T2.length<=20000)(m1:∀c∈cl,c.1<=15)(m2:∀c∈cd,c.1<=15)(l1:cl.length<=1000)(l2:cd.length<=1000) :
  ∃hb2,qaB h0 hb2/\IM hb2 (zQ (zQ h2 ⟨k.bm,6,none⟩ (.pointer (some ⟨b1,0,none⟩))) ⟨k.bm,7,none⟩ (.pointer (some ⟨b2,0,none⟩))) k r al last (.pointer (some ⟨b1,0,none⟩)) (.pointer (some ⟨b2,0,none⟩))/\Po h0 hb2 (.pointer (some ⟨b1,0,none⟩)) (.pointer (some ⟨b2,0,none⟩)) cl cd:=by
 obtain⟨p,ao,co,hp,hr,hbm,P,N⟩:=H.mt;obtain⟨dd,at_,nn,hbw,R,sR,hnw⟩:=H.rg;have hbm2:=s12 _ _ hbm;rw[Wl hbm2];obtain⟨h3,hh3⟩:∃h3,h3=upd h2 k.bm (zX k.a k.c k.bs p ⟨(xk k al (.slice ao (k.otl al).length co) last l d).w,(xk k al (.slice ao (k.otl al).length co) last l d).out,(xk k al (.slice ao (k.otl al).length co) last l d).rm,(xk k al (.slice ao (k.otl al).length co) last l d).last,.pointer (some ⟨b1,0,none⟩),.pointer (some ⟨b2,0,none⟩)⟩ k.T):=⟨_,rfl⟩;rw[<-hh3];obtain⟨ls,hls⟩:∃ls,ls=[k.bm,k.bw]++(zh (.slice ao (k.otl al).length co)).toList:=⟨_,rfl⟩;have mem:∀z,z∈ls<->z=k.bm\/z=k.bw\/zh (.slice ao (k.otl al).length co)=some z:=fun z=>by
  rw[hls];cases zh (.slice ao (k.otl al).length co)with
  | none=>simp
  | some y=>simp[eq_comm]
 have hbn:∀z∈ls,hb z=none:=fun z hz=>by
  rcases(mem z).1 hz with rfl | rfl | e
  ·exact H.nm
  ·exact hnw
  ·exact(IM.xH N e).2.2
 have some1:∀z∈ls,h z≠none:=fun z hz=>by
  rcases(mem z).1 hz with rfl | rfl | e
  ·rw[hbm];simp
  ·rw[hbw];simp
  ·exact tB.Oheld P (show tB.B _ z from e)
 have h32:∀z,z≠k.bm->h3 z=h2 z:=fun z hz=>by rw[hh3];exact upd_ne hz
 have s3:qaB hb h3:=by rw[hh3];exact xJ (H.sb.trans s12) H.nm
 have sb2:qaB hb (wo h3 ls):=Sx s3 hbn;have P2':Part .u8 h3 (.slice ao (k.otl al).length co) (k.otl al):=(P.sub s12).keep fun z hz=>h32 z (IM.xH N hz).1
 have tab:∀ {b:Nat} {TT PP:List (Nat×Nat)} {aa:Option Addr} {cc:Nat} {E:Nat->Nat->Prop} {Y:Nat->Nat->Nat},TabV h h2 b TT PP aa cc E Y->TabV h0 (wo h3 ls) b TT PP aa cc E Y:=fun V=>by
  refine V.up (fun z hz=>ya (sb.trans H.sb) hz) (fun z hz=>?_) (sb.trans sb2);have hzn:h z=none:=by
   rcases hz with rfl | hz
   ·exact V.nb
   ·exact V.nw z hz
  have hzl:z∉ls:=fun hm=>some1 z hm hzn
  rw[Pp hzl];exact h32 z (fun e=>hzl ((mem z).2 (.inl e)))
 refine⟨wo h3 ls,sb.trans sb2,⟨⟨p,ao,co,hp,hr,by rw[hh3,upd_same];rfl,P2',fun z hz=>Au.2 ⟨?_,KR ((mem z).2 (.inr (.inr hz)))⟩⟩,⟨dd,at_,nn,(h32 k.bw (pN H.ne)).trans (s12 _ _ hbw),R,Ob,KR ((mem _).2 (.inr (.inl rfl)))⟩,KR ((mem _).2 (.inl rfl)),H.ne,Ob,H.le⟩,b1,b2,T1,P1,T2,P2,a1,a2,c1,c2,rfl,rfl,tab V1,tab V2,t1,t2,m1,m2,l1,l2⟩;have:=IM.xH N hz;simp[this.1,this.2.1]
end
end
section
theorem Pq{m:MC}(hb:h bm=some (zX a c bs p m T))(hs:¬S bm):xE S (zQ h ⟨bm,6,none⟩ v) ⟨bm,7,none⟩:=by
 rw[hset_cells' hb];have e:upd h bm (.cells (#[.slice a bs.length c,.int .i64 p,m.w,m.out,.int .i64 m.rm,.bool m.last,m.l,m.d].setIfInBounds 6 v) T) bm=some (zX a c bs p ⟨m.w,m.out,m.rm,m.last,v,m.d⟩ T):=by rw[upd_same];rfl
 obtain⟨_,_,_,_,_,_,_,g⟩:=yO e;exact kS e hs g
theorem codesN_15'(hg:¬(zt xs=0\/zt xs=2)):∀c∈zl xs,c.1<=15:=MY (we hg).2
section
variable {k:KC}{Fin:Rd × List Int}
theorem Yb(hi:qaC S h0)(L:k.bs.length<=1048576)(sb:qaB h0 hb)(H:IM hb h k r al last l d)(hk:r.k=0)(ok:okR k.bs r)(hFl:8*k.bs.length+1<=F)(f:Nat)(hf:8*(k.bs.length:Int)+1<=r.i+f)(hB:mz k r+3<=B)(hF:Fin=cont k F f last (syF k.bs (zl yV) (zl kU) k.dl k.room k.sz F r al)) :
  zb oPP S ji #[.pointer (some ⟨k.bm,0,none⟩)] h (Eh h0 k F Fin B):=by
 refine DJ (vs:=[.pointer (some ⟨k.bm,0,none⟩)]) ⟨rfl,trivial⟩ (hi.sub (sb.trans H.sb)) ?_;simp only[A6,Tr.wp,z4,Ex.ev,coerce,za,zc,ze,zd,zf,zx,xb,Cst.val,SV.den,zn,zL,zz,zk,zi,zy,yk,vF,vG,vA,vB,vD,vE,vI,vH,vJ,uC,uG,uD,uB,uL,vV,vK,zu];have his:=hi.sub (sb.trans H.sb);have hsb:¬S k.bm:=fun hs=>hi.sub sb k.bm hs H.nm
 have hpos:=ok hk;refine zb.mono (Q8 his) ?_;rintro _ h1 ⟨a1,c1,a2,c2,rfl,P1,P2,N1,N2,s1⟩;refine⟨_,_,_,_,_,_,rfl,?_⟩;have e288:(288:Nat)=yV.length:=qn.symm;have K1:=Cd (S:=S) (his.sub s1) a1 c1 yV (by rw[qn];exact P1) Pc Ht;rw[qn]at K1;refine zb.mono K1 ?_;rintro _ h2 ⟨b1,T1,Q1,d1,e1,rfl,V1,t1⟩;refine⟨_,rfl,?_⟩;have s2:=V1.sb;have K2:=Cd (S:=S) (his.sub (s1.trans s2)) a2 c2 kU (by rw[show kU.length=32 by simp[kU]];exact P2.sub s2) (by show kU.length<=1048576;simp[kU]) (by rw[Hv];decide);rw[show kU.length=32 by simp[kU]]at K2;refine zb.mono K2 ?_;rintro _ h3 ⟨b2,T2,Q2,d2,e2,rfl,V2,t2⟩;refine⟨_,rfl,?_⟩;have s3:=V2.sb;have s13:=s1.trans (s2.trans s3);obtain⟨p,ao,co,hp,hr,hbm,P,N⟩:=H.mt;have hbm3:=s13 _ _ hbm;obtain⟨_,_,_,_,_,_,g6,_⟩:=yO hbm3;have le1:(zl yV).length=288:=by rw[xA,qn]
 have le2':(zl kU).length=32:=by rw[xA];simp[kU]
 rw[<-le1]at V1;rw[<-le2']at V2;have W1:TabV h h3 b1 T1 Q1 d1 e1 (Em (zl yV) (zl yV).length) (Ym (zl yV) (zl yV).length):=(V1.Sy s3).up (fun z hz=>ya s1 hz) (fun _ _=>rfl) s13;have W2:TabV h h3 b2 T2 Q2 d2 e2 (Em (zl kU) (zl kU).length) (Ym (zl kU) (zl kU).length):=V2.up (fun z hz=>ya (s1.trans s2) hz) (fun _ _=>rfl) s13;obtain⟨hb2,sb2,H4,TA⟩:=H.Xb sb s13 W1 W2 t1 t2 (codesN_15' Ht) (codesN_15' (by rw[Hv];decide)) (by omega) (by omega);have ez:yh r.k=.nilIface:=by rw[hk];rfl
 refine⟨by simp,kS hbm3 hsb g6,by simp,Pq hbm3 hsb,?_⟩;refine⟨fnV k yG,r,al,hb2,last,_,_,by rw[ez];rfl,sb2,H4,ok,fun h=>absurd hk h,fun _=>⟨_,(by omega:mz k r+2<B),f,hf,.inr (.inr (.inr (.inr (.inl ⟨rfl,rfl,_,_,F,TA,by omega,hF⟩))))⟩⟩
theorem U4(hi:qaC S h0)(G:Errs h0)(hx:zo h0 .u8 k.a k.bs)(L:k.bs.length<=1048576)(sb:qaB h0 hb)(H:IM hb h k r al last l d)(hk:r.k=0)(ok:okR k.bs r)(hFl:8*k.bs.length+1<=F)(f:Nat)(hf:8*(k.bs.length:Int)+1<=r.i+f)(hB:mz k r+3<=B)
  (hF:Fin=cont k F f last (if(zN k.bs r).1.k≠0 then((zN k.bs r).1,al)else syF k.bs (zl (zN k.bs r).2.1) (zl (zN k.bs r).2.2) k.dl k.room k.sz F (zN k.bs r).1 al)) :
  zb oPP S xT #[.pointer (some ⟨k.bm,0,none⟩)] h (Eh h0 k F Fin B):=by
 refine CI (vs:=[.pointer (some ⟨k.bm,0,none⟩)]) ⟨rfl,trivial⟩ (hi.sub (sb.trans H.sb)) ?_;simp only[wO,Tr.wp,z4,Ex.ev,coerce,za,zc,ze,zd,zf,zx,xb,Cst.val,SV.den,zn,zL,zz,zk,zi,zy,yk,vF,vG,vA,vB,vD,vE,vI,vH,vJ,uC,uG,uD,uB,uL,vV,vK,zu];have hib:=hi.sub sb;have hsb:¬S k.bm:=fun hs=>hib k.bm hs H.nm
 have hpos:=ok hk;obtain⟨p,ao,co,hp,hr,hbm,P,N⟩:=H.mt;obtain⟨dd,at_,nn,hbw,R,sR,hnw⟩:=H.rg;obtain⟨g,hg⟩:∃g,g=wo h [k.bm]:=⟨_,rfl⟩;have sbg:qaB hb g:=hg▸Sx H.sb (fun b hb'=>by rw[uF.1 hb'];exact H.nm);have sgh:qaB g h:=hg▸Ob;have gb:g k.bm=none:=hg▸KR (uF.2 rfl);have gne:∀z,z≠k.bm->g z=h z:=fun z hz=>by rw[hg];exact Pp (fun hm=>hz (uF.1 hm))
 have er:r=⟨(p:Int),0⟩:=by
  obtain⟨i,kk⟩:=r;obtain rfl:kk=0:=hk;rw[show i=(p:Int) from hr rfl]
 refine zb.mono (XR (hib.sub sbg) ((G.sub sb).sub sbg) ((hx.sub sb).sub sbg) L p hp ⟨hbm,gb,sgh⟩) ?_;rw[<-er];have okF:=AB ok;have leF:le2 r (zN k.bs r).1:=FM;have good:=KJ (bs:=k.bs) (r:=r);obtain⟨lenA,yL⟩:=KI (bs:=k.bs) (r:=r);generalize zN k.bs r=X at hF okF leF good lenA yL ⊢;rintro _ h1 ⟨u,w,rfl,⟨p',hp',M1,hpi⟩,hP,⟨a1,l1,c1,a2,l2,c2,rfl,rfl⟩⟩;have sg1:=M1.sb;have hkeep:∀z,z≠k.bm->h z≠none->h1 z=h z:=fun z hz hn=>by
  cases e:h z with
  | none=>exact absurd e hn
  | some o=>exact sg1 z o ((gne z hz).trans e)
 have H1:IM hb h1 k X.1 al last l d:=⟨⟨p',ao,co,hp',hpi,M1.hb,P.keep fun z hz=>hkeep z (IM.xH N hz).1 (tB.Oheld P (show tB.B _ z from hz)),N⟩,⟨dd,at_,nn,(hkeep k.bw (pN H.ne) (by rw[hbw];simp)).trans hbw,R,sbg.trans sg1,hnw⟩,H.nm,H.ne,sbg.trans sg1,H.le⟩;refine⟨_,_,_,_,_,_,yh X.1.k,zg,by rw[zg],fun hz=>?_,fun hz=>?_⟩
 ·rw[zg,zP]at hz;have hk1:X.1.k≠0:=by simpa using hz
  refine⟨.nilFunc,X.1,al,hb,last,l,d,by rw[zg],sb,H1,okF,fun _=>⟨?_,.inl rfl⟩,fun h=>absurd h hk1⟩;rw[hF,vP hk1,jb hk1]
 rw[zg,zP]at hz;have hk1:X.1.k=0:=by simpa using hz
 rw[vM (fun h=>h hk1)]at hF;obtain⟨P1,P2,N1,N2⟩:=hP hk1;obtain⟨g1,g2⟩:=good hk1;obtain⟨_,_,ei,_,_⟩:=P1.ints;cases ei
 obtain⟨_,_,ei,_,_⟩:=P2.ints;cases ei
 have his1:=hib.sub H1.sb;refine zb.mono (Cd (S:=S) his1 a1 c1 X.2.1 P1 (nW lenA (by decide)) g1) ?_;rintro _ h2 ⟨b1,T1,Q1,d1,e1,rfl,V1,t1⟩;refine⟨_,rfl,?_⟩;have s2:=V1.sb;refine zb.mono (Cd (S:=S) (his1.sub s2) a2 c2 X.2.2 (P2.sub s2) (nW yL (by decide)) g2) ?_;rintro _ h3 ⟨b2,T2,Q2,d2,e2,rfl,V2,t2⟩;refine⟨_,rfl,?_⟩;have s3:=V2.sb;have s13:=s2.trans s3;have hbm3:=s13 _ _ M1.hb;obtain⟨_,_,_,_,_,_,g6,_⟩:=yO hbm3;rw[<-xA (xs:=X.2.1)]at V1;rw[<-xA (xs:=X.2.2)]at V2;have W1:=V1.Sy s3;have W2:TabV h1 h3 b2 T2 Q2 d2 e2 (Em (zl X.2.2) (zl X.2.2).length) (Ym (zl X.2.2) (zl X.2.2).length):=V2.up (fun z hz=>ya s2 hz) (fun _ _=>rfl) s13;obtain⟨hb2,sb2,H4,TA⟩:=H1.Xb sb s13 W1 W2 t1 t2 (codesN_15' g1) (codesN_15' g2) (by rw[xA];omega) (by rw[xA];omega);have ez:yh X.1.k=.nilIface:=by rw[hk1];rfl
 have hpos2:=okF hk1;have hle:=(leF hk1).2;refine⟨by simp,kS hbm3 hsb g6,by simp,Pq hbm3 hsb,?_⟩;refine⟨fnV k yG,X.1,al,hb2,last,_,_,by rw[ez];rfl,sb2,H4,okF,fun h=>absurd hk1 h,fun _=>⟨_,(by have hm:=Ih (k:=k) (r:=r) (rr:=X.1) (m:=0) (by omega) hpos2.2;omega:mz k X.1+2<B),f,by omega,.inr (.inr (.inr (.inr (.inl ⟨rfl,rfl,_,_,F,TA,by omega,hF⟩))))⟩⟩
end
end
section
theorem Mj{L:List Int}(h1:1<=D)(h2:D<=L.length):∀n,ja D L n=L++cpD L D n
 | 0=>by simp[ja,cpD]
 | n+1=>by
  have ih:=Mj h1 h2 n;have hX:(L++cpD L D n).length=L.length+n:=by rw[vY,CO]
  rw[ja,ih,hX,Pk,<-vX];congr 2;by_cases hn:n<D
  ·simp only[List.getD];rw[nO hn,vZ (by omega),show L.length+n-D=L.length-D+n by omega]
  ·simp only[List.getD];rw[uN (by omega),show L.length+n-D-L.length=n-D by omega];have hm:(n-D)%D=n%D:=by rw[<-Nat.add_mod_right (n-D) D,Nat.sub_add_cancel (by omega)]
   rw[<-hm];simp[cpD,List.getD,show n-D<n by omega]
theorem Ps(h1:1<=D)(h2:D<=(zB sz al).length):cpD (zB sz al) D n=cpD al D n:=by
 unfold cpD;apply nQ;intro j _;have hm:j%D<D:=gF _ (by omega);have hl:=je (n:=sz) (L:=al);rw[hl];rw[hl]at h2;unfold zB;simp only[List.getD,nV];rw[show al.length-sz+(min al.length sz-D+j%D)=al.length-D+j%D by omega]
theorem Zu:∀s:Fin 286,257<=s.1->(yL s.1).1+2^(yL s.1).2<=259:=by decide +kernel
section
variable {k:KC}{Fin:Rd × List Int}
theorem U5(hi:qaC S h0)(G:Errs h0)(hx:zo h0 .u8 k.a k.bs)(L:k.bs.length<=1048576)(sb:qaB h0 hb)(H:IM hb h k r al last l d)(hk:r.k=0){bt:Nat}{TT PP:List (Nat×Nat)}(TV:TabV h0 hb bt TT PP a2 c2 (Em cs cs.length) (Ym cs cs.length))(hTl:TT.length<=20000)(hM:∀c∈cs,c.1<=15)(hcl:cs.length<=1000) :
  zb oPP S yY #[.pointer (some ⟨k.bm,0,none⟩),.pointer (some ⟨bt,0,none⟩)] h (fun v h'=>v=.tuple #[.int .i64 (sy k.bs cs r).2,yh (sy k.bs cs r).1.k]/\IM hb h' k (sy k.bs cs r).1 al last l d):=by
 obtain⟨p,ao,co,hp,hr,hbm,P,N⟩:=H.mt;obtain⟨i,kk⟩:=r;obtain rfl:kk=0:=hk;obtain rfl:i=(p:Int):=hr rfl;refine zb.mono (MX hi G hx L p hp ⟨hbm,ya sb H.nm,sb.trans H.sb⟩ (TV.Sy H.sb) hTl hM (fun e=>?_) (fun e=>?_) (OY _) hcl) ?_
 ·obtain⟨TY,hbb⟩:=TV.hb;rw[e,H.nm]at hbb;cases hbb
 ·exact TV.ow.held _ e H.nm
 rintro _ h1 ⟨rfl,p',hp',rfl,hpe⟩;exact⟨rfl,H.Pm hp' (fun h=>(hpe h).symm) P N⟩
theorem Zv(h:r.k≠0):sy bs cs r=(r,0):=by unfold sy;rw[vM h]
theorem U6(hi:qaC S h0)(G:ErrL h0)(hro:k.room<=200000)(hdl:k.dl<=40000)(hsz:1<=k.sz/\k.sz<=32768)(hx:zo h0 .u8 k.a k.bs)(L:k.bs.length<=1048576)(sb:qaB h0 hb)(H:IM hb h k r al last l d)(hk:r.k=0)(ok:okR k.bs r)(f:Nat)(hf:8*(k.bs.length:Int)+1<=r.i+f)(f':Nat)(hf':8*(k.bs.length:Int)+1<=r.i+f')(TA:Po h0 hb l d cl cd)(hB:mz k r+2<=B)
  (hF:Fin=cont k F f last (syF k.bs cl cd k.dl k.room k.sz f' r al)) :
  zb oPP S yG #[.pointer (some ⟨k.bm,0,none⟩)] h (Eh h0 k F Fin B):=by
 refine CJ (vs:=[.pointer (some ⟨k.bm,0,none⟩)]) ⟨rfl,trivial⟩ (hi.sub (sb.trans H.sb)) ?_;simp (maxSteps:=4000000) only[wQ,Tr.wp,z4,Ex.ev,coerce,toInt_int,za,zc,ze,zd,zf,zx,xb,z9,arith,Cst.val,SV.den,zn,zL,zz,zk,zi,zy,zq,vF,vG,vA,vB,vL,vR,vD,vE,vI,vH,vJ,uC,uG,uD,uB,vW,uL,vV,vK,zu];have hib:=hi.sub sb;have Gb:=G.sub sb;have hxb:=hx.sub sb;have hsb:¬S k.bm:=fun hs=>hib k.bm hs H.nm
 have hpos:=ok hk;obtain⟨f2,rfl⟩:∃f2,f'=f2+1:=⟨f'-1,by omega⟩;obtain⟨b1,b2,T1,P1,T2,P2,a1,a2,c1,c2,rfl,rfl,V1,V2,t1,t2,m1,m2,l1,l2⟩:=id TA;have est:syF k.bs cl cd k.dl k.room k.sz (f2+1) r al=(if(sy k.bs cl r).1.k≠0\/(sy k.bs cl r).2=256 then((sy k.bs cl r).1,al)else syF k.bs cl cd k.dl k.room k.sz f2 (sy1 k.bs cd k.dl k.room k.sz (sy k.bs cl r).1 al (sy k.bs cl r).2).1 (sy1 k.bs cd k.dl k.room k.sz (sy k.bs cl r).1 al (sy k.bs cl r).2).2):=by rw[syF,vP hk]
 obtain⟨_,_,_,_,_,hbm0,_,_⟩:=H.mt;obtain⟨_,_,_,_,_,_,g6,g7⟩:=yO hbm0;refine⟨by simp,_,g6,?_⟩;refine zb.mono (U5 hi G.es hx L sb H hk V1 t1 m1 l1) ?_;rintro _ h1 ⟨rfl,H1⟩;have ok1:okR k.bs (sy k.bs cl r).1:=qk ok;have lt1:(sy k.bs cl r).1.k=0->r.k=0/\r.i+1<=(sy k.bs cl r).1.i:=NY;have nn1:=KH (bs:=k.bs) (cs:=cl) (r:=r);generalize sy k.bs cl r=q at est H1 ok1 lt1 nn1 ⊢;obtain⟨r1,x⟩:=q;simp only at est H1 ok1 lt1 nn1 ⊢;refine⟨_,yh r1.k,zg,by rw[zg],fun hz=>?_,fun hz=>?_⟩
 ·rw[zg,zP]at hz;have hk1:r1.k≠0:=by simpa using hz
  refine⟨.nilFunc,r1,al,hb,last,_,_,by rw[zg],sb,H1,ok1,fun _=>⟨?_,.inl rfl⟩,fun h=>absurd h hk1⟩;rw[hF,est,vP (.inl hk1),jb hk1]
 rw[zg,zP]at hz;have hk1:r1.k=0:=by simpa using hz
 have hlt1:=(lt1 hk1).2;refine⟨fun hlt b hbn=>?_,fun hge=>⟨fun h256=>?_,fun h256=>⟨fun hgt=>?_,fun hle=>?_⟩⟩⟩
 ·have wb:IntKind.u8.wrap x=x:=by rw[mP];omega
  rw[wb];have e1:sy1 k.bs cd k.dl k.room k.sz r1 al x=tell k.dl k.room r1 al [x]:=vP hlt;rw[vM (by omega),e1]at est;have H5:=H1.sub (Sub.zC (o:=.cells (ints .u8 [x]) 5) hbn);refine zb.mono (U0 hib Gb hro hdl H5 hk1 (ad:=some ⟨b,0,none⟩) (cd:=1) (ys:=[x]) zo.new (by simp) (by simp) (H1.fresh hbn)) ?_;rintro _ h6 ⟨rfl,H6⟩;refine⟨yh (tell k.dl k.room r1 al [x]).1.k,zg,by rw[zg],?_⟩;rw[zg];refine⟨fnV k yG,_,_,hb,last,_,_,rfl,sb,H6,wN ok1,fun h6k=>⟨?_,.inr ⟨_,rfl⟩⟩,fun h6k=>?_⟩
  ·rw[hF,est,BA h6k,jb h6k]
  ·have hle6:=(AA (dl:=k.dl) (room:=k.room) (al:=al) (d:=[x]) h6k).2;exact⟨_,(by have hm:=Ih (k:=k) (r:=r) (rr:=(tell k.dl k.room r1 al [x]).1) (m:=1) (by omega) (wN ok1 h6k).2;omega:mz k (tell k.dl k.room r1 al [x]).1+2<B),f,by omega,.inr (.inr (.inr (.inr (.inl ⟨rfl,rfl,_,_,f2,TA,by push_cast at hf';omega,by rw[hF,est]⟩))))⟩
 ·have h256:x=256:=uK.1 h256;have ez:yh r1.k=.nilIface:=by rw[hk1];rfl
  refine⟨fnV k x8,r1,al,hb,last,_,_,by rw[ez];rfl,sb,H1,ok1,fun h=>absurd hk1 h,fun _=>⟨_,(by have hm:=Ih (k:=k) (r:=r) (rr:=r1) (m:=1) (by omega) (ok1 hk1).2;omega:mz k r1+1<B),f,by omega,.inr (.inr (.inr (.inr (.inr (.inl ⟨rfl,rfl,?_⟩)))))⟩⟩;rw[hF,est,vP (.inr h256)]
 ·have h256:x≠256:=by simpa using h256
  have e1:sy1 k.bs cd k.dl k.room k.sz r1 al x=(⟨r1.i,3⟩,al):=by unfold sy1;rw[vM (by omega),vP (by omega)];unfold bd;rw[vP ⟨hk1,rfl⟩]
  rw[vM (by omega),e1]at est;refine⟨3,(Gb.sub H1.sb).es.e3,.nilFunc,⟨r1.i,3⟩,al,hb,last,_,_,rfl,sb,H1.Ii (show(3:Int)≠0 by decide),fun h=>(by cases h),fun _=>⟨?_,.inl rfl⟩,fun h=>(by cases h)⟩;rw[hF,est,BA (show(3:Int)≠0 by decide),jb (show(3:Int)≠0 by decide)]
 ·have h256:x≠256:=by simpa using h256
  obtain⟨s,rfl⟩:=vU (show 0<=x by omega);have e1:sy1 k.bs cd k.dl k.room k.sz r1 al (s:Int)=cpF k.bs cd k.dl k.room k.sz r1 al s:=by unfold sy1;rw[vM (by omega),vM (by omega)];rfl
  rw[vM (by omega),e1]at est;have bad:∀(h':qaA) (rr:Rd),cpF k.bs cd k.dl k.room k.sz r1 al s=(rr,al)->rr.k≠0->okR k.bs rr->IM hb h' k rr al last (.pointer (some ⟨b1,0,none⟩)) (.pointer (some ⟨b2,0,none⟩))->Eh h0 k F Fin B (.tuple #[.nilFunc,yh rr.k]) h':=fun h' rr e hkr okr HR=>
   ⟨.nilFunc,rr,al,hb,last,_,_,rfl,sb,HR,okr,fun _=>⟨by rw[hF,est,e,BA hkr,jb hkr],.inl rfl⟩,fun h=>absurd h hkr⟩
  have hlen:=Mc ⟨s,by omega⟩ (by simp only;omega);simp only at hlen;refine zb.mono (Sw (hib.sub H1.sb) s (by omega) (by omega)) ?_;rintro _ h2 ⟨rfl,rfl⟩;refine⟨_,_,rfl,?_⟩;refine zb.mono (DC hib Gb.es hxb L H1 hk1 (yL s).2) ?_;rintro _ h2 ⟨rfl,H2⟩;have okc1:okR k.bs (cp1 k.bs r1 s).1:=y7 ok1;have e1':tk k.bs (yL s).2 r1=cp1 k.bs r1 s:=rfl;rw[e1']at H2 ⊢;refine⟨_,yh (cp1 k.bs r1 s).1.k,zg,by rw[zg],fun hz=>?_,fun hz=>?_⟩
  ·rw[zg,zP]at hz;have hk2:(cp1 k.bs r1 s).1.k≠0:=by simpa using hz
   rw[zg];refine bad h2 _ ?_ hk2 okc1 H2;have e2:cp2 k.bs cd r1 s=((cp1 k.bs r1 s).1,0):=Zv hk2;have e3:cp3 k.bs cd r1 s=(cp1 k.bs r1 s).1:=by unfold cp3;rw[e2];exact Cg hk2
   unfold cpF;rw[e3,vP hk2]
  rw[zg,zP]at hz;have hk2:(cp1 k.bs r1 s).1.k=0:=by simpa using hz
  obtain⟨_,_,_,_,_,hbm2,_,_⟩:=H2.mt;obtain⟨_,_,_,_,_,_,_,g7'⟩:=yO hbm2;refine⟨by simp,_,g7',?_⟩;refine zb.mono (U5 hi G.es hx L sb H2 hk2 V2 t2 m2 l2) ?_;rintro _ h3 ⟨rfl,H3⟩;have okc2:okR k.bs (cp2 k.bs cd r1 s).1:=qk okc1;have e2':sy k.bs cd (cp1 k.bs r1 s).1=cp2 k.bs cd r1 s:=rfl;have nn2:=KH (bs:=k.bs) (cs:=cd) (r:=(cp1 k.bs r1 s).1);rw[e2']at H3 nn2 ⊢;refine⟨_,yh (cp2 k.bs cd r1 s).1.k,zg,by rw[zg],fun hz=>?_,fun hz=>?_⟩
  ·rw[zg,zP]at hz;have hk3:(cp2 k.bs cd r1 s).1.k≠0:=by simpa using hz
   rw[zg];refine bad h3 _ ?_ hk3 okc2 H3;have e3:cp3 k.bs cd r1 s=(cp2 k.bs cd r1 s).1:=Cg hk3;unfold cpF;rw[e3,vP hk3]
  rw[zg,zP]at hz;have hk3:(cp2 k.bs cd r1 s).1.k=0:=by simpa using hz
  refine⟨fun hgt=>?_,fun hle29=>?_⟩
  ·have e3:cp3 k.bs cd r1 s=⟨(cp2 k.bs cd r1 s).1.i,3⟩:=by unfold cp3 bd;rw[vP ⟨hk3,nU (by omega)⟩]
   refine⟨3,(Gb.sub H3.sb).es.e3,bad h3 ⟨(cp2 k.bs cd r1 s).1.i,3⟩ ?_ (show(3:Int)≠0 by decide) (fun h=>(by cases h)) (H3.Ii (show(3:Int)≠0 by decide))⟩;unfold cpF;rw[e3,vP (show(3:Int)≠0 by decide)]
  have e3:cp3 k.bs cd r1 s=(cp2 k.bs cd r1 s).1:=by unfold cp3 bd;rw[vM (fun h=>by have:=of_decide_eq_true h.2;omega)]
  obtain⟨dd,hdd⟩:=vU nn2.1;have hd29:dd<=29:=by omega
  have hdis:=Md ⟨dd,by omega⟩;simp only at hdis;rw[hdd];refine zb.mono (Wh (hib.sub H3.sb) dd hd29) ?_;rintro _ h4 ⟨rfl,rfl⟩;refine⟨_,_,rfl,?_⟩;rw[<-e3]at H3 hk3;have ok3:okR k.bs (cp3 k.bs cd r1 s):=by rw[e3];exact okc2
  refine zb.mono (DC hib Gb.es hxb L H3 hk3 (yW dd).2) ?_;rintro _ h4 ⟨rfl,H4⟩;have e4:tk k.bs (yW dd).2 (cp3 k.bs cd r1 s)=cp4 k.bs cd r1 s:=by unfold cp4;rw[hdd,vN]
  have n4:=yp (bs:=k.bs) (n:=(yW dd).2) (r:=cp3 k.bs cd r1 s);have okc4:okR k.bs (cp4 k.bs cd r1 s).1:=y7 ok3;rw[e4]at H4 n4 ⊢;refine⟨_,yh (cp4 k.bs cd r1 s).1.k,zg,by rw[zg],fun hz=>?_,fun hz=>?_⟩
  ·rw[zg,zP]at hz;have hk4:(cp4 k.bs cd r1 s).1.k≠0:=by simpa using hz
   rw[zg];refine bad h4 _ ?_ hk4 okc4 H4;have e5:cp5 k.bs cd k.sz r1 al s=(cp4 k.bs cd r1 s).1:=Cg hk4;unfold cpF;rw[vM (fun h=>h hk3),e5,vP hk4]
  rw[zg,zP]at hz;have hk4:(cp4 k.bs cd r1 s).1.k=0:=by simpa using hz
  have hp13:(2:Int)^(yW dd).2<=8192:=by
   rw[yC];exact_mod_cast nW (uW (by decide) hdis.2.2) (by decide)
  have nn1':=yp (bs:=k.bs) (n:=(yL s).2) (r:=r1);have hp5:(2:Int)^(yL s).2<=32:=by
   rw[yC];exact_mod_cast nW (uW (by decide) hlen.2.2) (by decide)
  rw[e1']at nn1';obtain⟨x4,hx4⟩:=vU n4.1;obtain⟨x1,hx1⟩:=vU nn1'.1;have hdist:yE k.bs cd r1 s=(yW dd).1+x4:=by unfold yE;rw[hdd,vN,hx4,vN]
  have hcl:jr k.bs r1 s=(yL s).1+x1:=by unfold jr;rw[hx1,vN]
  rw[hx4,hx1];have wd:IntKind.i64.wrap (((yW dd).1:Int)+(x4:Int))=((yE k.bs cd r1 s:Nat):Int):=by rw[hdist,i64_in _ (by omega)];omega
  have wl:IntKind.i64.wrap (((yL s).1:Int)+(x1:Int))=((jr k.bs r1 s:Nat):Int):=by rw[hcl,i64_in _ (by omega)];omega
  rw[wd,wl];have hdp:1<=yE k.bs cd r1 s/\yE k.bs cd r1 s<=40000:=by omega
  have hlp:jr k.bs r1 s<=400/\1<=jr k.bs r1 s:=by omega
  have h258:jr k.bs r1 s<=258:=by
   have e:=Zu ⟨s,by omega⟩ (by simp only;omega);simp only at e;have hx:=nn1'.2;rw[hx1,yC]at hx;have:x1<2^(yL s).2:=by exact_mod_cast hx
   omega
  obtain⟨p,ao,co,hp,hr,hbm4,P4,N4⟩:=H4.mt;obtain⟨rd,at_,nn,hbw,R,sR,hnw⟩:=H4.rg;obtain⟨_,_,u2,u3,u4,_⟩:=yO hbm4;have hknn:nn=min al.length k.sz:=by rw[<-R.kn,je]
  have hal:=H4.le;refine⟨by simp,_,u2,by simp,(nn:Int),by simp only[zf,zu,uD,uB];exact OM hbw R.dl,fun hgt=>?_,fun hle=>⟨by simp,_,u4,fun hgt2=>?_,fun hle2=>⟨by simp,_,u4,by simp,?_⟩⟩⟩
  ·have e5:cp5 k.bs cd k.sz r1 al s=⟨(cp4 k.bs cd r1 s).1.i,3⟩:=by
    unfold cp5 bd;rw[vP ⟨hk4,by simp only[pV,vL];omega⟩]
   refine⟨3,(Gb.sub H4.sb).es.e3,bad h4 ⟨(cp4 k.bs cd r1 s).1.i,3⟩ ?_ (show(3:Int)≠0 by decide) (fun h=>(by cases h)) (H4.Ii (show(3:Int)≠0 by decide))⟩;unfold cpF;rw[vM (fun h=>h hk3),e5,vP (show(3:Int)≠0 by decide)]
  all_goals
   have e5:cp5 k.bs cd k.sz r1 al s=(cp4 k.bs cd r1 s).1:=by
    unfold cp5 bd;rw[vM (fun h=>by have:=h.2;simp only[pV,vL]at this;omega)]
   have ecp:cpF k.bs cd k.dl k.room k.sz r1 al s=tell k.dl k.room (cp4 k.bs cd r1 s).1 al (cpD al (yE k.bs cd r1 s) (jr k.bs r1 s)):=by
    unfold cpF;rw[vM (fun h=>h hk3),e5,vM (fun h=>h hk4)]
  ·refine⟨6,(Gb.sub H4.sb).e6,bad h4 ⟨(cp4 k.bs cd r1 s).1.i,6⟩ ?_ (show(6:Int)≠0 by decide) (fun h=>(by cases h)) (H4.Ii (show(6:Int)≠0 by decide))⟩;rw[ecp];unfold tell;rw[vP hk4,vP (by rw[CO];simp only[xk]at hgt2;omega)]
  ·have ecp2:cpF k.bs cd k.dl k.room k.sz r1 al s=((cp4 k.bs cd r1 s).1,al++cpD al (yE k.bs cd r1 s) (jr k.bs r1 s)):=by
    rw[ecp];unfold tell;rw[vP hk4,vM (by rw[CO];simp only[xk]at hle2;omega)]
   have hrl:al.length-k.dl+jr k.bs r1 s<=k.room:=by simp only[xk]at hle2;omega
   have lecp:le2 r1 (cp4 k.bs cd r1 s).1:=fun h=>by
    have a3:=xq (bs:=k.bs) (n:=(yW (cp2 k.bs cd r1 s).2.toNat).2) (r:=cp3 k.bs cd r1 s) h;have a2:=xj (w:=decide (29<(cp2 k.bs cd r1 s).2)) (r:=(cp2 k.bs cd r1 s).1) a3.1;have a1:=FK (bs:=k.bs) (cs:=cd) (r:=(cp1 k.bs r1 s).1) a2.1;have a0:=xq (bs:=k.bs) (n:=(yL s).2) (r:=r1) a1.1;exact⟨a0.1,Int.le_trans a0.2 (Int.le_trans a1.2 (Int.le_trans a2.2 a3.2))⟩
   clear ecp e5;generalize hcp4:(cp4 k.bs cd r1 s).1=r4 at H4 hr hk4 okc4 ecp2 lecp;generalize hD:yE k.bs cd r1 s=D at hle hdp ecp2 hdist ⊢;generalize hM:jr k.bs r1 s=M at hle2 hlp h258 ecp2 hrl hcl ⊢;have hM2:=CO (al:=al) (dist:=D) (n:=M);have hDl:D<=(zB k.sz al).length:=by rw[je];omega
   simp only[yk,zu,uB];have hrm:IntKind.i64.wrap ((xk k al (.slice ao (k.otl al).length co) last (.pointer (some ⟨b1,0,none⟩)) (.pointer (some ⟨b2,0,none⟩))).rm-(M:Int))=(k.room:Int)-(((al++cpD al D M).length-k.dl:Nat):Int):=by
    simp only[xk,vY,hM2];rw[i64_in _ (by omega)];omega
   refine⟨kS hbm4 hsb u4,by simp,?_⟩;rw[hrm,Ri hbm4];obtain⟨h5,hh5⟩:∃h5,h5=upd h4 k.bm (zX k.a k.c k.bs p ⟨.pointer (some ⟨k.bw,0,none⟩),.slice ao (k.otl al).length co,(k.room:Int)-(((al++cpD al D M).length-k.dl:Nat):Int),last,.pointer (some ⟨b1,0,none⟩),.pointer (some ⟨b2,0,none⟩)⟩ k.T):=⟨_,rfl⟩;have eh5:upd h4 k.bm (zX k.a k.c k.bs p ⟨(xk k al (.slice ao (k.otl al).length co) last (.pointer (some ⟨b1,0,none⟩)) (.pointer (some ⟨b2,0,none⟩))).w,(xk k al (.slice ao (k.otl al).length co) last (.pointer (some ⟨b1,0,none⟩)) (.pointer (some ⟨b2,0,none⟩))).out,(k.room:Int)-(((al++cpD al D M).length-k.dl:Nat):Int),(xk k al (.slice ao (k.otl al).length co) last (.pointer (some ⟨b1,0,none⟩)) (.pointer (some ⟨b2,0,none⟩))).last,(xk k al (.slice ao (k.otl al).length co) last (.pointer (some ⟨b1,0,none⟩)) (.pointer (some ⟨b2,0,none⟩))).l,(xk k al (.slice ao (k.otl al).length co) last (.pointer (some ⟨b1,0,none⟩)) (.pointer (some ⟨b2,0,none⟩))).d⟩ k.T)=h5:=by rw[hh5];rfl
   rw[eh5];have hb5:h5 k.bm=some (zX k.a k.c k.bs p ⟨.pointer (some ⟨k.bw,0,none⟩),.slice ao (k.otl al).length co,(k.room:Int)-(((al++cpD al D M).length-k.dl:Nat):Int),last,.pointer (some ⟨b1,0,none⟩),.pointer (some ⟨b2,0,none⟩)⟩ k.T):=by rw[hh5,upd_same]
   have h54:∀z,z≠k.bm->h5 z=h4 z:=fun z hz=>by rw[hh5];exact upd_ne hz
   obtain⟨_,_,w2,w3,_⟩:=yO hb5;have s5:qaB hb h5:=by rw[hh5];exact xJ H4.sb H4.nm
   have hbw5:h5 k.bw=some (yj k.sz rd at_ nn k.TW):=(h54 k.bw (pN H4.ne)).trans hbw;have P5:Part .u8 h5 (.slice ao (k.otl al).length co) (k.otl al):=P4.keep fun z hz=>h54 z (IM.xH N4 hz).1
   obtain⟨g,hg⟩:∃g,g=wo h5 [k.bw]:=⟨_,rfl⟩;have sbg:qaB hb g:=hg▸Sx s5 (fun b hb'=>by rw[uF.1 hb'];exact hnw);have sg5:qaB g h5:=hg▸Ob;have gne:∀z,z≠k.bw->g z=h5 z:=fun z hz=>by rw[hg];exact Pp (fun hm=>hz (uF.1 hm))
   have Rg:RingAt g h5 k.bw k.TW k.sz (zB k.sz (zB k.sz al)):=by
    rw[F7];exact⟨rd,at_,nn,hbw5,R,sg5,hg▸KR (uF.2 rfl)⟩
   refine⟨_,_,_,w3,by simp,_,w2,?_⟩;refine zb.mono (We (hib.sub sbg) Rg (D:Int) (M:Int) (by omega) (by omega) (by rw[je]at hDl;omega) (by omega) (by rw[je];omega)) ?_;rintro v6 h6 ⟨O6,N6,R6⟩;rw[vN,vN,Mj hdp.1 hDl,Ps hdp.1 hDl]at R6;rw[vN,vN,Mj hdp.1 hDl,Ps hdp.1 hDl,List.drop_left]at O6;rw[BW]at R6;obtain⟨rd6,at6,nn6,hbw6,RS6,sg6,_⟩:=R6;have hkeep:∀z,z≠k.bw->h5 z≠none->h6 z=h5 z:=fun z hz hn=>by
    cases e:h5 z with
    | none=>exact absurd e hn
    | some o=>exact sg6 z o ((gne z hz).trans e)
   have hb6:=(hkeep k.bm H4.ne (by rw[hb5];simp)).trans hb5;obtain⟨_,_,x2,x3,_⟩:=yO hb6;have P6:Part .u8 h6 (.slice ao (k.otl al).length co) (k.otl al):=P5.keep fun z hz=>hkeep z (IM.xH N4 hz).2.1 (tB.Oheld P5 (show tB.B _ z from hz))
   obtain⟨a6,c6,rfl,_,g6'⟩:=Part.ints O6;refine⟨_,_,_,rfl,fun pp hpp=>?_,?_⟩
   ·obtain rfl:=uF.1 hpp;simp only[Ex.ev,coerce,zc,ze,zd,zf,zx,vA,vB,uD,zu,zf]
    first | exact x3 | (simp[zu];exact x3)
   have hdl2:(k.otl al).length<=300000:=by rw[KC.Rf];omega
   refine yA hib (sbg.trans sg6) P6 (fun z hz=>(IM.xH N4 hz).2.2) g6' (by omega) fun v7 h7 o7 n7 s7 k7 r7=>?_
   obtain⟨a7,c7,rfl,_,_⟩:=o7.ints;have hb7:=(k7 k.bm (by rw[hb6];simp) (fun e=>(IM.xH N4 e).1 rfl)).trans hb6;have hbw7:=(k7 k.bw (by rw[hbw6];simp) (fun e=>(IM.xH N4 e).2.1 rfl)).trans hbw6;obtain⟨_,_,_,y3,_⟩:=yO hb7;simp only[zd,zc,ze];refine⟨by simp,kS hb7 hsb y3,?_⟩;rw[Pn hb7];have ed:k.otl (al++cpD al D M)=k.otl al++cpD al D M:=KC.Rh hal.1;have nv:∀z,zh (.slice a7 (k.otl al++cpD al D M).length c7)=some z->z≠k.bm/\z≠k.bw:=fun z hz=>by
    rcases r7 with r7 | r7
    ·have:=IM.xH N4 (r7▸hz);exact⟨this.1,this.2.1⟩
    ·have:=r7 z hz;exact⟨fun e=>(by rw[e,hb6]at this;cases this),fun e=>(by rw[e,hbw6]at this;cases this)⟩
   obtain⟨h8,hh8⟩:∃h8,h8=upd h7 k.bm (zX k.a k.c k.bs p ⟨.pointer (some ⟨k.bw,0,none⟩),.slice a7 (k.otl al++cpD al D M).length c7,(k.room:Int)-(((al++cpD al D M).length-k.dl:Nat):Int),last,.pointer (some ⟨b1,0,none⟩),.pointer (some ⟨b2,0,none⟩)⟩ k.T):=⟨_,rfl⟩;rw[<-hh8];have s8:qaB hb h8:=by rw[hh8];exact xJ s7 H4.nm
   have h87:∀z,z≠k.bm->h8 z=h7 z:=fun z hz=>by rw[hh8];exact upd_ne hz
   have H8:IM hb h8 k r4 (al++cpD al D M) last (.pointer (some ⟨b1,0,none⟩)) (.pointer (some ⟨b2,0,none⟩)):=by
    refine⟨⟨p,a7,c7,hp,hr,?_,?_,?_⟩,⟨rd6,at6,nn6,(h87 k.bw (pN H4.ne)).trans hbw7,RS6,s8,hnw⟩,H4.nm,H4.ne,s8,?_⟩
    ·rw[hh8,upd_same,ed];rfl
    ·rw[ed];exact o7.keep fun z hz=>h87 z (nv z hz).1
    ·rw[ed];exact fun z hz=>Au.2 ⟨by simp[(nv z hz).1,(nv z hz).2],n7 z hz⟩
    ·rw[vY,hM2];omega
   have ez:yh r4.k=.nilIface:=by rw[hk4];rfl
   have hle4:=(lecp hk4).2;refine⟨fnV k yG,r4,_,hb,last,_,_,by rw[ez];rfl,sb,H8,okc4,fun h=>absurd hk4 h,fun _=>⟨_,(by have hm:=Ih (k:=k) (r:=r) (rr:=r4) (m:=1) (by omega) (okc4 hk4).2;omega:mz k r4+2<B),f,by omega,.inr (.inr (.inr (.inr (.inl ⟨rfl,rfl,_,_,f2,TA,by push_cast at hf';omega,by rw[hF,est,ecp2]⟩))))⟩⟩
end
end
section
section
variable {k:KC}{Fin:Rd × List Int}
def Bh(h0:qaA)(k:KC)(F:Nat)(Fin:Rd×List Int)(v:Value)(h:qaA)(n:Nat):Prop:=
 ∃(r:Rd) (al:List Int) (hb:qaA) (last:Bool) (l d:Value),qaB h0 hb/\IM hb h k r al last l d/\r.k=0/\okR k.bs r/\Zt h0 hb k F Fin v r al last l d n
def Pt(h0:qaA)(k:KC)(Fin:Rd×List Int)(v:Value)(h':qaA):Prop:=
 ∃(hb:qaA) (last:Bool) (l d:Value),v=yh Fin.1.k/\qaB h0 hb/\IM hb h' k Fin.1 Fin.2 last l d/\okR k.bs Fin.1
theorem least{P:Nat->Prop}:∀n,P n->∃m,P m/\∀j,P j->m<=j
 | n,h=>by
  by_cases hs:∃j,j<n/\P j
  ·obtain⟨j,hj,hp⟩:=hs;exact least j hp
  ·exact⟨n,h,fun j hp=>Nat.le_of_not_lt fun hl=>hs ⟨j,hl,hp⟩⟩
open Classical in
noncomputable def runM (h0:qaA) (k:KC) (F:Nat) (Fin:Rd×List Int) (v:Value) (h:qaA):Nat:=if H:∃n,Bh h0 k F Fin v h n/\∀j,Bh h0 k F Fin v h j->n<=j then Classical.choose H else 0
theorem Nf(H:Bh h0 k F Fin v h n):Bh h0 k F Fin v h (runM h0 k F Fin v h)/\runM h0 k F Fin v h<=n:=by
 have e:=least n H;unfold runM;rw[dif_pos e];exact⟨(Classical.choose_spec e).1,(Classical.choose_spec e).2 n H⟩
theorem Xc(hi:qaC S h0)(G:ErrL h0)(hro:k.room<=200000)(hdl:k.dl<=40000)(hsz:1<=k.sz/\k.sz<=32768)(hx:zo h0 .u8 k.a k.bs)(L:k.bs.length<=1048576)(hFl:8*k.bs.length+1<=F){n0:Nat}(H0:Bh h0 k F Fin (fnV k yq) h n0) :
  zb oPP S jR #[.pointer (some ⟨k.bm,0,none⟩),.func (.func yq) #[.pointer (some ⟨k.bm,0,none⟩)] #[]] h (Pt h0 k Fin):=by
 refine EW (vs:=[.pointer (some ⟨k.bm,0,none⟩),.func (.func yq) #[.pointer (some ⟨k.bm,0,none⟩)] #[]]) ⟨rfl,rfl,trivial⟩ (hi.sub (by obtain⟨_,_,hb,_,_,_,s,H,_⟩:=H0;exact s.trans H.sb)) ?_;simp only[Bn,Tr.wp,z4,Ex.ev,coerce,za,Cst.val,SV.den,zn,zL,zz,zk,zi,zy,zV,vF,vG,vA,vB,vC,vD,vE,vI,vH,vJ,uC,uG,uD,uL,vV,vK];refine⟨fun us h'=>∃v n,us=[v]/\Bh h0 k F Fin v h' n,fun us h'=>runM h0 k F Fin (us.getD 0 undef) h',⟨_,n0,rfl,H0⟩,?_⟩;rintro v hfv h' ⟨v',n,hx1,HR⟩;obtain rfl:v=v':=by simpa using hx1
 obtain⟨⟨r,al,hb,last,l,d,sb,H,hk,ok,HO⟩,_⟩:=Nf HR;obtain⟨m,hm⟩:∃m,m=runM h0 k F Fin v h':=⟨_,rfl⟩;rw[<-hm]at HO;have fin:∀v1 h1,Eh h0 k F Fin m v1 h1->∃v_2,Aj v_2=v_2/\∃v_3,kv v_3=v_3/\v1=.tuple #[Aj v_2,kv v_3]/\((!x7 (kv v_3))=true->Pt h0 k Fin (kv v_3) h1) /\
   ((!x7 (kv v_3))=false->(∃v n,[Aj v_2]=[v]/\Bh h0 k F Fin v h1 n)/\runM h0 k F Fin (([Aj v_2]:List Value).getD 0 undef) h1<runM h0 k F Fin (([v]:List Value).getD 0 undef) h'):=by
  rintro v1 h1 ⟨nx,rr,al',hb',last',l',d',rfl,sb',H',ok',hbad,hgood⟩;have hnx:Aj nx=nx:=by
   by_cases hkr:rr.k=0
   ·obtain⟨n',_,f,_,hO⟩:=hgood hkr;rcases hO with⟨e,_⟩ | ⟨e,_⟩ | ⟨e,_⟩ | ⟨e,_⟩ | ⟨e,_⟩ | ⟨e,_⟩ | ⟨e,_⟩ <;> (rw[e];rfl)
   ·rcases(hbad hkr).2 with e | ⟨f,e⟩ <;> (rw[e];rfl)
  refine⟨nx,hnx,yh rr.k,zg,by rw[hnx,zg],fun hz=>?_,fun hz=>?_⟩
  ·rw[zg,zP]at hz;have hkr:rr.k≠0:=by simpa using hz
   obtain⟨e,_⟩:=hbad hkr;rw[e,zg];exact⟨hb',last',l',d',rfl,sb',H',ok'⟩
  ·rw[zg,zP]at hz;have hkr:rr.k=0:=by simpa using hz
   obtain⟨n',hn',hO⟩:=hgood hkr;have RA:Bh h0 k F Fin nx h1 n':=⟨rr,al',hb',last',l',d',sb',H',hkr,ok',hO⟩;have:=(Nf RA).2;rw[hnx];refine⟨⟨nx,n',rfl,RA⟩,?_⟩;show runM h0 k F Fin nx h1<runM h0 k F Fin v h';omega
 obtain⟨f,hf,hO⟩:=HO;rcases hO with⟨rfl,em,e⟩ | ⟨rfl,em,e⟩ | ⟨rfl,em,e⟩ | ⟨rfl,em,e⟩ | ⟨rfl,em,cl,cd,f',TA,hf',e⟩ | ⟨rfl,em,e⟩ | ⟨rfl,em,e⟩
 ·refine⟨fun _=>⟨_,_,_,rfl,zb.mono (Ya hi G.es hx L sb H hk ok f hf (B:=m) (by omega) e) fin⟩,fun h=>(by cases h)⟩
 ·refine⟨fun _=>⟨_,_,_,rfl,zb.mono (Wk hi G hro hdl hx L sb H hk ok f hf (B:=m) (by omega) e) fin⟩,fun h=>(by cases h)⟩
 ·refine⟨fun _=>⟨_,_,_,rfl,zb.mono (Yb hi L sb H hk ok hFl f hf (B:=m) (by omega) e) fin⟩,fun h=>(by cases h)⟩
 ·refine⟨fun _=>⟨_,_,_,rfl,zb.mono (U4 hi G.es hx L sb H hk ok hFl f hf (B:=m) (by omega) e) fin⟩,fun h=>(by cases h)⟩
 ·refine⟨fun _=>⟨_,_,_,rfl,zb.mono (U6 hi G hro hdl hsz hx L sb H hk ok f hf f' hf' TA (B:=m) (by omega) e) fin⟩,fun h=>(by cases h)⟩
 ·refine⟨fun _=>⟨_,_,_,rfl,zb.mono (Wi hi sb H hk ok f hf (B:=m) (by omega) e) fin⟩,fun h=>(by cases h)⟩
 ·refine⟨fun h=>(by cases h),fun _=>⟨hb,last,l,d,?_,sb,?_,?_⟩⟩
  ·rw[e,hk];rfl
  ·rw[e];exact H
  ·rw[e];exact ok
end
end
section
theorem BC(hi:qaC S h)(G:ErrL h)(E:Cv h)(O:tB.O h v bs)(L:Bf bs)(n:Int)(wn:(Lit.int .i64 n).wf=true)(O2:tB.O h u ds)(L2:Bf ds) :
  zb oPP S jJ #[v,.int .i64 n,u] h (fun v h'=>xx.O h' v (zK bs n ds)/\xx.New h v/\qaB h h'):=by
 obtain⟨a,c,rfl,hc,hx⟩:=Part.ints O;obtain⟨a2,c2,rfl,hc2,hx2⟩:=Part.ints O2;have hL:bs.length<=1048576:=L;have hL2:ds.length<=1048576:=L2;refine Dp (vs:=[.slice a bs.length c,.int .i64 n,.slice a2 ds.length c2]) ⟨rfl,rfl,rfl,trivial⟩ hi ?_;simp only[Bz,Tr.wp,z4,Ex.ev,coerce,toInt_int,za,zc,ze,zd,zf,zx,jA,z9,Cst.val,SV.den,zn,zL,zz,zk,zi,yF,zy,zq,vF,vG,nN,vA,vB,vL,vR,vD,vE,vI,vH,vJ,uD,uB,vW,vV,vK,zu];refine⟨fun hgt=>?_,fun hle=>⟨fun hbad=>?_,fun hok=>?_⟩⟩
 ·have e:zK bs n ds=(7,[],0,()):=vP (by omega);rw[e];exact FN (fun _ _ e=>e)
 ·have e:zK bs n ds=(3,[],0,()):=by
   unfold zK;rw[vM (by omega),vP (by simp at hbad;omega)]
  rw[e];exact FN (fun _ _ e=>e)
 have hok:1<=n/\n<=32768:=by simp at hok;omega
 have e:zK bs n ds=if(yM bs n.toNat ds).1.k≠0 then((yM bs n.toNat ds).1.k,(yM bs n.toNat ds).2.drop (zB n.toNat ds).length,0,())else(1,(yM bs n.toNat ds).2.drop (zB n.toNat ds).length,(yM bs n.toNat ds).1.i,()):=by
  unfold zK;rw[vM (by omega),vM (by omega)]
 rw[e];obtain⟨m,rfl⟩:=vU (show 0<=n by omega);rw[vN];obtain⟨f1,f2,f3⟩:=Hx (bs:=bs) (ds:=ds) (n:=m);have okr:okR bs ⟨0,0⟩:=fun _=>⟨pP _,by simp only;omega⟩
 refine zb.mono (Pf (sz:=m) hi a2 c2 ds hc2 (by omega) hx2 (by omega) (by omega)) ?_;rintro _ h1 ⟨bw,TW,rfl,RW⟩;refine⟨_,rfl,?_⟩;intro bm hbm;obtain⟨k,hk⟩:∃k:KC,k=⟨a,c,bs,(zB m ds).length,100000,m,46,TW,bm,bw,[]⟩:=⟨_,rfl⟩;obtain⟨dd,at_,nn,hbw,R,s1,hnw⟩:=RW;have ne:bm≠bw:=fun e=>by rw[e,hbw]at hbm;cases hbm
 obtain⟨h2,hh2⟩:∃h2,h2=upd h1 bm (zX a c bs ((0:Nat):Int) ⟨.pointer (some ⟨bw,0,none⟩),.slice none 0 0,100000,false,.pointer none,.pointer none⟩ 46):=⟨_,rfl⟩;have sh2:qaB h h2:=by rw[hh2];exact s1.trans (Sub.zC hbm)
 have H0:IM h h2 k ⟨0,0⟩ (zB m ds) false (.pointer none) (.pointer none):=by
  subst hk;have ed:(zB m ds).drop (zB m ds).length=[]:=List.drop_length;refine⟨⟨0,none,0,by omega,fun _=>rfl,?_,?_,?_⟩,⟨dd,at_,nn,?_,by rw[F7];exact R,sh2,hnw⟩,ya s1 hbm,ne,sh2,⟨uI _,lT _ _,by simp⟩⟩
  ·rw[hh2,upd_same];simp only[xk,KC.otl,ed,mB];rfl
  ·simp only[KC.otl,ed,vJ];exact Part.nil
  ·intro z hz;simp only[KC.otl,ed]at hz;cases hz
  ·rw[hh2,upd_ne (pN ne)];exact hbw
 have RA:Bh h k (8*bs.length+1) (yM bs m ds) (fnV k yq) h2 (mz k ⟨0,0⟩+0):=by
  refine⟨⟨0,0⟩,zB m ds,h,false,_,_,fun _ _ e=>e,H0,rfl,by subst hk;exact okr,8*bs.length+1,by subst hk;simp only;omega,.inl ⟨rfl,rfl,?_⟩⟩;subst hk;rfl
 have K:=Xc (S:=S) hi G (by subst hk;simp) (by subst hk;simp only;omega) (by subst hk;simp only;omega) (by subst hk;exact hx) (by subst hk;exact hL) (by subst hk;exact uI _) RA;have ebm:k.bm=bm:=by rw[hk]
 rw[ebm,hh2]at K;refine zb.mono K ?_;rintro _ h3 ⟨hb,last,l,d,rfl,sb,H3,ok3⟩;obtain⟨p,ao,co,hp,hr,hb3,P3,N3⟩:=H3.mt;obtain⟨_,g1,_,g3,_⟩:=yO hb3;rw[ebm]at g1 g3;have edl:k.otl (yM bs m ds).2=(yM bs m ds).2.drop (zB m ds).length:=by rw[hk];rfl
 rw[edl]at P3 N3 g3;have s3:=sb.trans H3.sb;have N3':qaD h (.slice ao ((yM bs m ds).2.drop (zB m ds).length).length co):=fun z hz=>ya sb (IM.xH N3 hz).2.2
 refine⟨yh (yM bs m ds).1.k,zg,by rw[zg],fun hz=>?_,fun hz=>?_⟩
 ·rw[zg,zP]at hz;have hk1:(yM bs m ds).1.k≠0:=by simpa using hz
  rw[vP hk1,zg,QZ hk1];refine⟨_,_,_,g3,?_⟩;refine zb.mono (MT (hi.sub s3) (E.sub s3)) ?_;rintro _ h4 ⟨rfl,s4⟩;refine⟨_,rfl,fun pp hpp=>?_,KQ (P3.sub s4) N3' (s3.trans s4)⟩;obtain rfl:=uF.1 hpp;simp only[Ex.ev,coerce,zc,ze,zd,zf,vA,vB,uD,zu,zf];exact xF s4 g3
 ·rw[zg,zP]at hz;have hk1:(yM bs m ds).1.k=0:=by simpa using hz
  rw[vM (fun h=>h hk1)];refine⟨_,_,_,g3,_,g1,?_⟩;rw[<-hr hk1];exact KQ P3 N3' s3
end
end
section
def w32(x:Int):Int:=IntKind.u32.wrap x
def ko(p:Int×Int)(x:Int):Int×Int:=
 ((w32 (p.1+w32 x)).tmod 65521,(w32 (p.2+(w32 (p.1+w32 x)).tmod 65521)).tmod 65521)
def EA(c:Int):Int×Int:=((c.tmod 65536).tmod 65521,(w32 (c.tdiv 65536)).tmod 65521)
def Ei(p:Int×Int):Int:=w32 (w32 (p.2*65536)+p.1)
def yQ(c:Int)(xs:List Int):Int:=Ei (xs.foldl ko (EA c))
theorem Nh{α β:Type}(f:α->β->α)(p:α){xs:List β}{i:Nat}(hi:i<xs.length):(xs.take (i+1)).foldl f p=f ((xs.take i).foldl f p) xs[i]:=by
 rw[mS,vO hi,List.foldl_append];rfl
theorem DD(hi:qaC S h)(c0:Int)(a:Option Addr)(c:Nat)(xs:List Int)(hx:zo h .u8 a xs)(hl:xs.length<=2^48) :
  zb oPP S wc #[.int .u32 c0,.slice a xs.length c] h (fun v h'=>v=.int .u32 (yQ c0 xs)/\h'=h):=by
 refine LR (vs:=[.int .u32 c0,.slice a xs.length c]) ⟨rfl,rfl,trivial⟩ hi ?_;simp only[Hc,Tr.wp,Ex.ev,coerce,toInt_int,za,zc,ze,zd,zf,zM,z9,arith,Cst.val,SV.den,zy,zV,zq,vA,vB,vC,vL,vR,vD,vE,vI,vH,vW];refine⟨fun us h'=>∃i:Nat,us=[.int .u32 ((xs.take i).foldl ko (EA c0)).1,.int .u32 ((xs.take i).foldl ko (EA c0)).2,.int .i64 i]/\i<=xs.length/\h'=h,
  fun us _=>xs.length-(toInt (us.getD 2 undef)).toNat,⟨0,rfl,by omega,rfl⟩,?_⟩
 rintro x y z h' ⟨i,hx1,hi2,rfl⟩;simp only[uJ,uP,pF,vW]at hx1;obtain⟨rfl,rfl,rfl⟩:=hx1;refine⟨fun hlt=>?_,fun hge=>?_⟩
 ·have hi3:i<xs.length:=by omega
  obtain⟨g1,g2⟩:=hx.cell (vO hi3);have w2:IntKind.i64.wrap ((i:Int)+1)=((i+1:Nat):Int):=zr;refine⟨by simpa using g2,by omega,by omega,xs[i],by simpa[add_add]using g1,⟨i+1,?_,by omega,rfl⟩,?_⟩
  ·rw[w2,Nh ko (EA c0) hi3];rfl
  ·simp only[w2,vB,vA,toInt_int,vN];omega
 ·obtain rfl:i=xs.length:=by omega
  refine⟨?_,rfl⟩;rw[mJ];rfl
theorem kq(hi:qaC S h)(c0:Int)(a:Option Addr)(c:Nat)(xs:List Int)(hx:zo h .u8 a xs)(hl:xs.length<=2^48:=by omega) :
  zb oPP S xG #[.int .u32 c0,.slice a xs.length c] h (fun v h'=>v=.int .u32 (yQ c0 xs)/\h'=h):=by
 refine FB (vs:=[.int .u32 c0,.slice a xs.length c]) ⟨rfl,rfl,trivial⟩ hi ?_;simp only[BX,Tr.wp,Ex.ev,coerce,toInt_int,za,zc,ze,zd,zf,zM,z9,arith,Cst.val,SV.den,zy,zV,zq,vA,vB,vC,vL,vR,vD,vE,vI,vH,vW];refine⟨fun us h'=>∃i:Nat,us=[.int .u32 ((xs.take i).foldl ko (EA c0)).1,.int .u32 ((xs.take i).foldl ko (EA c0)).2,.int .i64 i]/\i<=xs.length/\h'=h,
  fun us _=>xs.length-(toInt (us.getD 2 undef)).toNat,⟨0,rfl,by omega,rfl⟩,?_⟩
 rintro x y z h' ⟨i,hx1,hi2,rfl⟩;simp only[uJ,uP,pF,vW]at hx1;obtain⟨rfl,rfl,rfl⟩:=hx1;refine⟨fun hlt=>?_,fun hge=>?_⟩
 ·have hi3:i<xs.length:=by omega
  obtain⟨g1,g2⟩:=hx.cell (vO hi3);have w2:IntKind.i64.wrap ((i:Int)+1)=((i+1:Nat):Int):=zr;refine⟨by simpa using g2,by omega,by omega,xs[i],by simpa[add_add]using g1,⟨i+1,?_,by omega,rfl⟩,?_⟩
  ·rw[w2,Nh ko (EA c0) hi3];rfl
  ·simp only[w2,vB,vA,toInt_int,vN];omega
 ·obtain rfl:i=xs.length:=by omega
  refine⟨?_,rfl⟩;rw[mJ];rfl
theorem U7(hi:qaC S h)(a:Option Addr)(c:Nat)(xs:List Int)(hx:zo h .u8 a xs)(hl:xs.length<=2^48) :
  zb oPP S AR #[.slice a xs.length c] h (fun v h'=>v=.int .u32 (yQ 1 xs)/\qaB h h'):=by
 refine E1 (vs:=[.slice a xs.length c]) ⟨rfl,trivial⟩ hi ?_;simp only[AW,Tr.wp,z4,Ex.ev,coerce,toInt_int,zc,ze,zd,Cst.val,SV.den,zn,zL,zz,zk,zi,zy,vF,vG,vA,vB,vD,vE,vI,vH,vJ,vV,vK];refine(DD hi 1 a c xs hx hl).mono ?_;rintro _ h' ⟨rfl,rfl⟩;exact⟨_,rfl,rfl,fun _ _ h=>h⟩
end
variable {x:Int}
section
def Mk:List Int->Int
 | []=>0
 | y::ys=>y+Mk ys
def Ml:List Int->Int
 | []=>0
 | y::ys=>((ys.length:Int)+1)*y+Ml ys
def okB(xs:List Int):Prop:=∀x∈xs,0<=x/\x<256
def okS(p:Int×Int):Prop:=0<=p.1/\p.1<65521/\0<=p.2/\p.2<65521
theorem UA{p:Int×Int}(hp:okS p)(hx:0<=x/\x<256):ko p x=((p.1+x)%65521,(p.2+(p.1+x)%65521)%65521)/\okS (ko p x):=by
 obtain⟨h1,h2,h3,h4⟩:=hp;have w1:w32 x=x:=by unfold w32;rw[pT];omega
 have w2:w32 (p.1+x)=p.1+x:=by unfold w32;rw[pT];omega
 have e1:(p.1+x).tmod 65521=(p.1+x)%65521:=uA (by omega);have w3:w32 (p.2+(p.1+x)%65521)=p.2+(p.1+x)%65521:=by unfold w32;rw[pT];omega
 have e2:(p.2+(p.1+x)%65521).tmod 65521=(p.2+(p.1+x)%65521)%65521:=uA (by omega);have e:ko p x=((p.1+x)%65521,(p.2+(p.1+x)%65521)%65521):=by
  unfold ko;rw[w1,w2,e1,w3,e2]
 refine⟨e,?_⟩;rw[e];exact⟨by show 0<=_%_;omega,by show _%_<_;omega,by show 0<=_%_;omega,by show _%_<_;omega⟩
theorem Rl{a b k:Int}(h:a=b+65521*k):a%65521=b%65521:=by rw[h];omega
theorem Pu:∀(xs:List Int) (p:Int×Int),okS p->okB xs->xs.foldl ko p=((p.1+Mk xs)%65521,(p.2+xs.length*p.1+Ml xs)%65521):=by
 intro xs;induction xs with
 | nil=>
  rintro⟨a,b⟩ ⟨h1,h2,h3,h4⟩ _;simp only[List.foldl_nil,Mk,Ml,uG]at *;simp only[uZ];refine⟨?_,?_⟩ <;> omega
 | cons x xs ih=>
  intro p hp hb;obtain⟨e,ok⟩:=UA hp (hb x (by simp));rw[List.foldl_cons,ih _ ok (fun y hy=>hb y (by simp[hy])),e];simp only[Mk,Ml,uC,uZ];have d1:(p.1+x)%65521=p.1+x-65521*((p.1+x)/65521):=by omega
  have d2:(p.2+(p.1+x)%65521)%65521=p.2+(p.1+x)%65521-65521*((p.2+(p.1+x)%65521)/65521):=by omega
  refine⟨Rl (k := -((p.1+x)/65521)) (by omega),?_⟩;refine Rl (k := -((p.2+(p.1+x)%65521)/65521)-((xs.length:Int)+1)*((p.1+x)/65521)) ?_;rw[d2,d1];generalize (p.1+x)/65521=u;generalize (p.2+(p.1+x-65521*u))/65521=v
  push_cast
  simp only[Int.mul_add,Int.add_mul,Int.mul_sub,Int.mul_neg,Int.one_mul];have m1:(xs.length:Int)*(65521*u)=65521*((xs.length:Int)*u):=by rw[<-gP,lS (xs.length:Int) 65521,gP]
  omega
theorem Yc(h:okB xs)(h':okB ys):okB (xs++ys):=fun x hx=>(pU.1 hx).elim (h x) (h' x)
theorem Jp{p:Int×Int}(hp:okS p):Ei p=p.2*65536+p.1:=by
 obtain⟨h1,h2,h3,h4⟩:=hp;unfold Ei w32;rw[show IntKind.u32.wrap (p.2*65536)=p.2*65536 by rw[pT];omega,pT];omega
def KS(p q n:Int):Int:=
 IntKind.u32.wrap (IntKind.i64.wrap (IntKind.i64.wrap ((IntKind.i64.wrap ((IntKind.i64.wrap (IntKind.i64.wrap (IntKind.i64.wrap ((IntKind.u32.wrap (p.tdiv 65536)).tmod 65521)+IntKind.i64.wrap ((IntKind.u32.wrap (q.tdiv 65536)).tmod 65521)) +
  IntKind.i64.wrap (n*IntKind.i64.wrap (IntKind.i64.wrap ((p.tmod 65536).tmod 65521)-1)))).tmod 65521+65521)).tmod 65521*65536) +
  (IntKind.i64.wrap (IntKind.i64.wrap (IntKind.i64.wrap (IntKind.i64.wrap ((p.tmod 65536).tmod 65521)+IntKind.i64.wrap ((q.tmod 65536).tmod 65521))-1)+65521)).tmod 65521))
theorem UB{p q:Int×Int}(hp:okS p)(hq:okS q){n:Int}(h0:0<=n)(hn:n<=1000000) :
  KS (Ei p) (Ei q) n=((p.2+q.2+n*(p.1-1))%65521)*65536+(p.1+q.1-1)%65521:=by
 rw[Jp hp,Jp hq];obtain⟨h1,h2,h3,h4⟩:=hp;obtain⟨k1,k2,k3,k4⟩:=hq;have t1:∀x:Int,0<=x->∀m:Int,x.tmod m=x%m:=fun x hx m=>uA hx
 have a1:(p.2*65536+p.1).tmod 65536=p.1:=by rw[t1 _ (by omega)];omega
 have a2:(q.2*65536+q.1).tmod 65536=q.1:=by rw[t1 _ (by omega)];omega
 have b1:(p.2*65536+p.1).tdiv 65536=p.2:=by rw[uQ (by omega)];omega
 have b2:(q.2*65536+q.1).tdiv 65536=q.2:=by rw[uQ (by omega)];omega
 have c1:∀x:Int,0<=x->x<65521->x.tmod 65521=x:=fun x hx hy=>by rw[t1 _ hx];omega
 have u1:∀x:Int,0<=x->x<65521->IntKind.u32.wrap x=x:=fun x hx hy=>by rw[pT];omega
 have i1:∀x:Int,-4611686018427387904<=x->x<4611686018427387904->IntKind.i64.wrap x=x:=fun x hx hy=>by rw[mD];omega
 unfold KS;rw[a1,a2,b1,b2,u1 p.2 h3 h4,u1 q.2 k3 k4,c1 p.1 h1 h2,c1 q.1 k1 k2,c1 p.2 h3 h4,c1 q.2 k3 k4,i1 p.1 (by omega) (by omega),i1 q.1 (by omega) (by omega),i1 p.2 (by omega) (by omega),i1 q.2 (by omega) (by omega),
  i1 (p.1-1) (by omega) (by omega),i1 (p.2+q.2) (by omega) (by omega),i1 (p.1+q.1) (by omega) (by omega),i1 (p.1+q.1-1) (by omega) (by omega),i1 (p.1+q.1-1+65521) (by omega) (by omega)]
 have nb1 : -1000000<=n*(p.1-1):=by
  rcases(by omega:p.1<1\/1<=p.1)with h | h
  ·have:p.1-1 = -1:=by omega
   rw[this];omega
  ·have:=Int.mul_nonneg h0 (show 0<=p.1-1 by omega);omega
 have nb2:n*(p.1-1)<=1000000*65521:=by
  rcases(by omega:p.1<1\/1<=p.1)with h | h
  ·have:p.1-1 = -1:=by omega
   rw[this];omega
  ·exact Int.mul_le_mul hn (by omega) (by omega) (by omega)
 generalize n*(p.1-1)=m at nb1 nb2;rw[i1 m (by omega) (by omega),i1 (p.2+q.2+m) (by omega) (by omega)];have tm:(p.2+q.2+m).tmod 65521=p.2+q.2+m-65521*(p.2+q.2+m).tdiv 65521:=by have:=Int.tmod_add_mul_tdiv (p.2+q.2+m) 65521;omega
 have tl:=Int.lt_tmod_of_pos (p.2+q.2+m) (show(0:Int)<65521 by omega);have tu:=Int.tmod_lt_of_pos (p.2+q.2+m) (show(0:Int)<65521 by omega);generalize (p.2+q.2+m).tdiv 65521=v at tm;generalize (p.2+q.2+m).tmod 65521=z at tm tl tu;rw[i1 (z+65521) (by omega) (by omega),t1 (z+65521) (by omega),t1 (p.1+q.1-1+65521) (by omega)];have e1:(z+65521)%65521=(p.2+q.2+m)%65521:=by omega
 have e2:(p.1+q.1-1+65521)%65521=(p.1+q.1-1)%65521:=by omega
 rw[e1,e2];generalize hB:(p.2+q.2+m)%65521=B;generalize hA:(p.1+q.1-1)%65521=A;have:0<=B/\B<65521/\0<=A/\A<65521:=by omega
 rw[i1 (B*65536) (by omega) (by omega),i1 _ (by omega) (by omega),pT];omega
theorem Mm{p:Int×Int}(hp:okS p)(hb:okB xs):okS (xs.foldl ko p):=by
 rw[Pu xs p hp hb];exact⟨by show 0<=_%_;omega,by show _%_<_;omega,by show 0<=_%_;omega,by show _%_<_;omega⟩
theorem Wm:EA 1=(1,0):=by decide
theorem Yd{c:Int}(h:0<=c/\c<4294967296):okS (EA c):=by
 unfold EA w32;rw[uQ h.1,uA h.1,pT,uA (by omega),uA (by omega)];exact⟨by show 0<=_%_;omega,by show _%_<_;omega,by show 0<=_%_;omega,by show _%_<_;omega⟩
theorem Sz{p:Int×Int}(hp:okS p)(hb:okB ys)(hn:ys.length<=1000000):KS (Ei p) (yQ 1 ys) ys.length=Ei (ys.foldl ko p):=by
 have h1:okS (1,0):=⟨by decide,by decide,by decide,by decide⟩;unfold yQ;rw[Wm,UB hp (Mm h1 hb) (by omega) (by omega),Jp (Mm hp hb),Pu ys p hp hb,Pu ys (1,0) h1 hb];simp only[];have e1:(p.2+(0+(ys.length:Int)*1+Ml ys)%65521+(ys.length:Int)*(p.1-1))%65521=(p.2+(ys.length:Int)*p.1+Ml ys)%65521:=by
  rw[Int.mul_sub,Int.mul_one];omega
 have e2:(p.1+(1+Mk ys)%65521-1)%65521=(p.1+Mk ys)%65521:=by omega
 rw[e1,e2]
end
variable {u1:Value}
section
abbrev qo:=Int×List Int×Int×Unit
def jP:Ty Value qo:=NV (BV (HX .i64) (BV tB (BV (HX .i64) (NU))))
theorem CK{x:qo}(H:jP.O h v x):∃u1,v=.agg #[Value.int .i64 x.1,u1,Value.int .i64 x.2.2.1]/\tB.O h u1 x.2.1:=by
 obtain⟨_,rfl,_,_,rfl,(rfl:_=_),⟨u1,_,rfl,H1,⟨_,_,rfl,(rfl:_=_),⟨rfl⟩,d2⟩,d1⟩,d0⟩:=H;exact⟨u1,rfl,H1⟩
theorem Hz{x:qo}(H1:tB.O h u1 x.2.1):jP.O h (.agg #[Value.int .i64 x.1,u1,Value.int .i64 x.2.2.1]) x:=by
 unfold jP;simp only[LJ,IZ,QN,QO,F6,HZ,HY,pM,nK,implies_true,vW,pF,forall_false]
 first | exact H1 | simp_all
theorem KT{x:qo}:jP.B (.agg #[Value.int .i64 x.1,u1,Value.int .i64 x.2.2.1]) b<->tB.B u1 b:=by
 unfold jP;simp only[QM,F6,HZ,HY,false_or,pM]
variable {w : Value}{x:qo}
end
variable {k:Int}{us:List Int}{h1:qaA}
section
def hig(bs:List Int):Nat->Rd->Int->Rd×Int
 | 0,r,x=>(r,x)
 | n+1,r,x=>hig bs n (tk bs 8 r).1 (256*x+(tk bs 8 r).2)
def bdK(k:Int)(w:Bool)(r:Rd):Rd:=if r.k=0/\w=true then⟨r.i,k⟩else r
theorem BD(h:r.k≠0):bdK k w r=r:=by unfold bdK;rw[vM (fun e=>h e.1)]
theorem Pv(hk:k≠0)(H:okR bs r):okR bs (bdK k w r):=by
 unfold bdK;split
 ·intro h;exact absurd h hk
 ·exact H
theorem Fl:∀ {n:Nat} {r:Rd} {x:Int},okR bs r->okR bs (hig bs n r x).1
 | 0,r,x,H=>H
 | n+1,r,x,H=>by unfold hig;exact Fl (y7 H)
theorem AD(h:r.k≠0):tk bs n r=(r,0):=by unfold tk;rw[vM h]
theorem BE:∀ {n:Nat} {r:Rd} {x:Int},r.k≠0->(hig bs n r x).1=r
 | 0,r,x,H=>rfl
 | n+1,r,x,H=>by
  unfold hig;have e:tk bs 8 r=(r,0):=AD H;rw[e];exact BE H
theorem Rm{bs:List Int}:∀ {n:Nat} {r:Rd} {x:Int} {m:Int},0<=x->x<m->0<=(hig bs n r x).2/\(hig bs n r x).2<m*256^n
 | 0,r,x,m,h0,h1=>by simp[hig];exact⟨h0,h1⟩
 | n+1,r,x,m,h0,h1=>by
  unfold hig;have nm:=yp (bs:=bs) (n:=8) (r:=r);have e8:(2:Int)^8=256:=by decide
  rw[e8]at nm;have:=Rm (bs:=bs) (n:=n) (r:=(tk bs 8 r).1) (x:=256*x+(tk bs 8 r).2) (m:=256*m) (by omega) (by omega);refine⟨this.1,?_⟩;have e:m*256^(n+1)=256*m*256^n:=by rw[mH];ac_rfl
  rw[e];exact this.2
theorem Ro(h:r.k≠0):alg r=r:=by unfold alg;rw[vM h]
def zE(bs:List Int)(sz:Nat)(us:List Int)(r:Rd):Rd×List Int:=blF bs (zB sz us).length 100000 sz (8*bs.length+1) (8*bs.length+1) r (zB sz us)
def zO(bs:List Int)(sz:Nat)(us:List Int)(r:Rd):List Int:=(zE bs sz us r).2.drop (zB sz us).length
def zT(bs:List Int)(sz:Nat)(us:List Int)(r:Rd):Rd×Int:=hig bs 4 (alg (zE bs sz us r).1) 0
def zF(bs:List Int)(sz:Nat)(us:List Int)(r:Rd):Rd:=bdK 4 ((zT bs sz us r).2 != yQ 1 (zO bs sz us r)) (zT bs sz us r).1
def zA(bs:List Int)(sz:Nat)(us:List Int)(r:Rd):qo:=if(zF bs sz us r).k≠0 then((zF bs sz us r).k,zO bs sz us r,0,())else(1,zO bs sz us r,(zF bs sz us r).i/8,())
def zH(bs:List Int):Rd×Int:=hig bs 2 ⟨0,0⟩ 0
def zW(x:Int):Bool:=x%31 != 0||x/256%16 != 8||decide (7<x/4096)
def zR(bs:List Int):Rd:=bd (zW (zH bs).2) (zH bs).1
def zS(x:Int):Nat:=if x/4096<=7 then 2^(x/4096+8).toNat else 32768
def zId(bs:List Int):Rd×Int:=hig bs 4 (zR bs) 0
def zD(bs ds:List Int):Rd×List Int:=
 if(zH bs).2/32%2=1 then(bdK 5 (decide (ds.length=0)||(yQ 1 ds != (zId bs).2)) (zId bs).1,ds)else(zR bs,[])
def xM(bs ds:List Int):qo:=if bs.length>65536 then(7,[],0,())else zA bs (zS (zH bs).2) (zD bs ds).2 (zD bs ds).1
theorem UC(h:r.k≠0):zA bs sz us r=(r.k,[],0,()):=by
 have e1:zE bs sz us r=(r,zB sz us):=BB h;have e2:zO bs sz us r=[]:=by unfold zO;rw[e1];exact List.drop_length
 have e3:(zT bs sz us r).1=r:=by unfold zT;rw[e1];simp only;rw[Ro h,BE h]
 have e4:zF bs sz us r=r:=by unfold zF;rw[e3,BD h]
 unfold zA;rw[e4,vP h,e2]
theorem Rp(s:qaB h0 h'):jP.O h' (.agg #[.int .i64 k,.slice none 0 0,.int .i64 0]) (k,[],0,())/\jP.New h0 (.agg #[.int .i64 k,.slice none 0 0,.int .i64 0])/\qaB h0 h':=
 ⟨Hz (x:=(k,[],0,())) Part.nil,fun b hb=>(by have:=(KT (x:=(k,[],0,()))).1 hb;cases this),s⟩
theorem Od{k n:Int}(P:Part .u8 h' v xs)(N:qaD h0 v)(s:qaB h0 h'):jP.O h' (.agg #[.int .i64 k,v,.int .i64 n]) (k,xs,n,())/\jP.New h0 (.agg #[.int .i64 k,v,.int .i64 n])/\qaB h0 h':=
 ⟨Hz (x:=(k,xs,n,())) P,fun b hb=>N b ((KT (x:=(k,xs,n,()))).1 hb),s⟩
def PZ(h0:qaA)(x:qo)(v:Value)(h':qaA):Prop:=jP.O h' v x/\jP.New h0 v/\qaB h0 h'
theorem Jq(hi:qaC S h)(hx:zo h .u8 a bs)(L:bs.length<=1048576)(r:Rd)(ok:okR bs r)(n:Nat)(hn:n<=4:=by omega) :
  zb oPP S qA #[rdV a c bs r,.int .i64 n] h (fun v h'=>v=.tuple #[rdV a c bs (hig bs n r 0).1,.int .i64 (hig bs n r 0).2]/\h'=h):=by
 refine Kn (vs:=[.slice a bs.length c,.int .i64 r.i,.int .i64 r.k,.int .i64 n]) ⟨rfl,rfl,rfl,rfl,trivial⟩ hi ?_;simp only[Gm,Tr.wp,z4,Ex.ev,coerce,toInt_int,za,zc,ze,zd,z9,arith,Cst.val,SV.den,zn,zL,zz,zk,zi,zy,zV,vF,vG,vA,vB,vC,vL,vR,vD,vE,vI,vH,vJ,uC,uG,uD,uL,vV,vK];refine⟨fun us h'=>∃(j:Nat) (r':Rd) (x:Int),us=[.int .i64 x,.int .i64 j,.slice a bs.length c,.int .i64 r'.i,.int .i64 r'.k]/\j<=n/\okR bs r'/\0<=x/\x<256^j/\hig bs (n-j) r' x=hig bs n r 0/\h'=h,fun us _=>n-(toInt (us.getD 1 undef)).toNat,⟨0,r,0,rfl,by omega,ok,by omega,by simp,by simp,rfl⟩,?_⟩;rintro x0 x1 b1 m1 d1 x2 x3 h' ⟨j,r',x,hx1,hj,ok',g0,g1,e,rfl⟩;simp only[uJ,uP,uH,pF,vW]at hx1;obtain⟨rfl,rfl,⟨rfl,rfl,rfl⟩,rfl,rfl⟩:=hx1;refine⟨fun hlt=>?_,fun hge=>?_⟩
 ·have hjn:j<n:=by omega
  refine(xD hi hx L r' ok' 8).mono ?_;rintro _ h2 ⟨rfl,rfl⟩;have nm:=yp (bs:=bs) (n:=8) (r:=r');have e8:(2:Int)^8=256:=by decide
  rw[e8]at nm;have hp:(256:Int)^j<=256^3:=by
   have:((256^j:Nat):Int)<=((256^3:Nat):Int):=by exact_mod_cast uW (by decide) (show j<=3 by omega)
   simpa using this
  have e3:(256:Int)^3=16777216:=by decide
  have w1:IntKind.i64.wrap (IntKind.i64.wrap (256*x0)+(tk bs 8 r').2)=256*x0+(tk bs 8 r').2:=by
   rw[i64_in (256*x0) (by omega),i64_in _ (by omega)]
  have w2:IntKind.i64.wrap ((j:Int)+1)=((j+1:Nat):Int):=zr;refine⟨_,_,_,_,_,_,rfl,?_⟩;rw[w1,w2];refine⟨⟨j+1,(tk bs 8 r').1,_,rfl,by omega,y7 ok',by omega,by rw[mH];omega,?_,rfl⟩,by simp only[vB,vA,toInt_int];omega⟩;rw[<-e,show n-j=n-(j+1)+1 by omega];rfl
 ·obtain rfl:j=n:=by omega
  rw[mB]at e;rw[<-e];exact⟨rfl,rfl⟩
theorem QA(hi:qaC S h)(a:Option Addr)(c:Nat)(L:bs.length<=1048576)(r:Rd)(ok:okR bs r) :
  zb oPP S Ao #[rdV a c bs r] h (fun v h'=>v=rdV a c bs (alg r)/\h'=h):=by
 refine He (vs:=[.slice a bs.length c,.int .i64 r.i,.int .i64 r.k]) ⟨rfl,rfl,rfl,trivial⟩ hi ?_;simp only[Dt,Tr.wp,Ex.ev,coerce,toInt_int,za,zc,ze,zd,xL,z9,arith,Cst.val,SV.den,vA,vB,vD,vE,vW];obtain⟨i,k⟩:=r;unfold alg rdV;by_cases h0:k=0
 ·have:=ok h0;simp only at this;subst h0;have w:IntKind.i64.wrap (IntKind.i64.wrap ((IntKind.i64.wrap (i+7)).tdiv 8)*8)=(i+7)/8*8:=by
   rw[i64_in (i+7) (by omega),uQ (by omega),i64_in ((i+7)/8) (by omega),i64_in _ (by omega)]
  simp[w]
 ·simp[h0]
theorem Ye(hi:qaC S h)(a:Option Addr)(c:Nat)(bs:List Int)(r:Rd)(w:Bool) :
  zb oPP S Df #[rdV a c bs r,.bool w] h (fun v h'=>v=rdV a c bs (bdK 4 w r)/\h'=h):=by
 refine LU (vs:=[.slice a bs.length c,.int .i64 r.i,.int .i64 r.k,.bool w]) ⟨rfl,rfl,rfl,rfl,trivial⟩ hi ?_;simp only[Hf,Tr.wp,Ex.ev,coerce,toInt_int,za,zc,ze,zd,xg,xL,z9,Cst.val,SV.den,vA,vB,vD,vE,vW];obtain⟨i,k⟩:=r;unfold bdK rdV;by_cases h0:k=0
 ·subst h0;cases w <;> simp
 ·simp[h0]
theorem Ni(xs:List Int):IntKind.i64.wrap (yQ 1 xs)=yQ 1 xs:=by
 have:0<=yQ 1 xs/\yQ 1 xs<4294967296:=by unfold yQ Ei w32;rw[pT];omega
 exact i64_in _ (by omega)
theorem Pw(hsz:sz<=32768):(zB sz us).length<=32768/\(zB sz us).length<=(zE bs sz us r).2.length/\(zE bs sz us r).2.length<=(zB sz us).length+100000:=by
 have h1:(zB sz us).length<=32768:=by rw[je];omega
 have:=Mh (bs:=bs) (dl:=(zB sz us).length) (room:=100000) (sz:=sz) (F:=8*bs.length+1) (f:=8*bs.length+1) (r:=r) (al:=zB sz us) (uI _) (by omega);exact⟨h1,this.1,this.2⟩
theorem Xd(hi:qaC S h)(s:qaB h h1)(hx:zo h .u8 a bs)(L:bs.length<=65536)(r:Rd)(ok:okR bs r)(hsz:sz<=32768)
  {au:Option Addr}{cu:Nat}(hu:zo h1 .u8 au us)(hcu:us.length<=cu)(hul:us.length<=1048576)(K0:Kt)(e0 e1 e2 e3 e4 e5 e6 e7 e8 e10 e11:Value) :
  zsE.wp oPP S yb (PZ h (zA bs sz us r)) [e0,e1,e2,e3,e4,e5,e6,e7,e8,.int .i64 sz,e10,e11,.slice au us.length cu,.slice a bs.length c,.int .i64 r.i,.int .i64 r.k] h1 [K0]:=by
 simp only[zsE,Tr.wp,z4,Ex.ev,coerce,toInt_int,za,zc,ze,zd,z9,arith,Cst.val,SV.den,zn,zL,zz,zk,zi,zy,vF,vG,vA,vB,vD,vE,vI,vH,vJ,uC,uG,uD,uL,vV,vK];obtain⟨f1,f2,f3⟩:=Pw (bs:=bs) (us:=us) (r:=r) hsz;have i1:=hi.sub s;have hx1:=hx.sub s;refine(Nd i1 au cu us sz 100000 hcu (by omega) hsz hu).mono ?_;rintro _ h2 ⟨a3,c3,rfl,P3,N3,s3⟩;refine⟨_,_,_,_,_,_,rfl,?_⟩;have K:=KO (c:=c) (dl:=(zB sz us).length) (sz:=sz) (room:=100000) i1 s3 hx1 (by omega) r ok P3 N3 (uI _) (by omega) (by omega) (by omega) (by omega) (8*bs.length+1) (uI _) (8*bs.length+1) (uI _);refine zb.mono K ?_;rintro _ h4 ⟨a4,c4,rfl,P4,N4,s4⟩;have eF:blF bs (zB sz us).length 100000 sz (8*bs.length+1) (8*bs.length+1) r (zB sz us)=zE bs sz us r:=rfl;have okE:okR bs (zE bs sz us r).1:=KP ok;rw[eF]at P4 N4 ⊢;refine⟨_,_,_,_,_,_,_,_,_,_,_,rfl,?_⟩;refine zb.mono (Mi (dl:=(zB sz us).length) (sz:=sz) (room:=100000) i1 s4 P4 f2) ?_;rintro v5 h5 ⟨P5,N5,s5⟩;have eO:(zE bs sz us r).2.drop (zB sz us).length=zO bs sz us r:=rfl;rw[eO]at P5;obtain⟨a5,c5,rfl,hc5,g5⟩:=P5.ints;refine⟨_,_,_,rfl,?_⟩;refine zb.mono (QA (i1.sub s5) a c (show bs.length<=1048576 by omega) (zE bs sz us r).1 okE) ?_;rintro _ h6 ⟨rfl,rfl⟩;refine⟨_,_,_,_,_,rfl,?_⟩;refine zb.mono (Jq (c:=c) (i1.sub s5) (hx1.sub s5) (by omega) (alg (zE bs sz us r).1) (Bg okE) 4) ?_;rintro _ h6 ⟨rfl,rfl⟩;refine⟨_,_,_,_,_,_,rfl,?_⟩;have hO:(zO bs sz us r).length<=100000:=by unfold zO;rw[pL];omega
 refine zb.mono (kq (i1.sub s5) 1 a5 c5 (zO bs sz us r) g5) ?_;rintro _ h6 ⟨rfl,rfl⟩;refine⟨_,rfl,?_⟩;have eT:hig bs 4 (alg (zE bs sz us r).1) 0=zT bs sz us r:=rfl;rw[eT,Ni];refine zb.mono (Ye (i1.sub s5) a c bs (zT bs sz us r).1 ((zT bs sz us r).2 != yQ 1 (zO bs sz us r))) ?_;rintro _ h6 ⟨rfl,rfl⟩;have eZ:bdK 4 ((zT bs sz us r).2 != yQ 1 (zO bs sz us r)) (zT bs sz us r).1=zF bs sz us r:=rfl;rw[eZ];have okF:okR bs (zF bs sz us r):=Pv (by decide) (Fl (Bg okE));have N5':qaD h (.slice a5 (zO bs sz us r).length c5):=fun z hz=>ya s (N5 z hz)
 refine⟨_,_,_,_,_,rfl,fun hne=>?_,fun heq=>?_⟩
 ·have hk:(zF bs sz us r).k≠0:=by simpa using hne
  have e:zA bs sz us r=((zF bs sz us r).k,zO bs sz us r,0,()):=vP hk;rw[e];exact Od P5 N5' (s.trans s5)
 ·have hk:(zF bs sz us r).k=0:=by simpa using heq
  have e:zA bs sz us r=(1,zO bs sz us r,(zF bs sz us r).i/8,()):=vM (fun h=>h hk);have:=okF hk;have w:IntKind.i64.wrap ((zF bs sz us r).i.tdiv 8)=(zF bs sz us r).i/8:=by rw[uQ (by omega),i64_in _ (by omega)]
  rw[e,w];exact Od P5 N5' (s.trans s5)
end
section
theorem okB_drop'(H:okB xs)(n:Nat):okB (xs.drop n):=fun x hx=>H x (gG hx)
theorem Yf:okB []:=fun x hx=>by cases hx
theorem Rq(h:0<=x/\x<256:=by omega):okB [x]:=fun y hy=>by rw[uF.1 hy];exact h
section
theorem Jr{al d:List Int}(H:okB al)(G:okB d):okB (tell dl room r al d).2:=by
 unfold tell;split
 ·split
  ·exact H
  ·exact Yc H G
 ·exact H
theorem Yg{dist n:Nat}(H:okB al):okB (cpD al dist n):=fun x hx=>by
 unfold cpD at hx;obtain⟨k,_,rfl⟩:=pW.1 hx;rw[pI];cases hg:al[al.length-dist+k%dist]? with
 | none=>simp
 | some y=>exact H y (lI hg)
theorem Rr:∀ {n:Nat} {r:Rd} {al:List Int},okB al->okB (stL bs dl room n r al).2
 | 0,r,al,H=>H
 | n+1,r,al,H=>by
  unfold stL;split
  ·have nm:=yp (bs:=bs) (n:=8) (r:=r);have e8:(2:Int)^8=256:=by decide
   exact Rr (Jr H (Rq))
  ·exact H
theorem Yh{s:Nat}(H:okB al):okB (cpF bs cd dl room sz r al s).2:=by
 unfold cpF;split
 ·exact H
 ·split
  ·exact H
  ·exact Jr H (Yg H)
theorem Yi(hx:0<=x)(H:okB al):okB (sy1 bs cd dl room sz r al x).2:=by
 unfold sy1;split
 ·exact Jr H (Rq)
 ·split
  ·exact H
  ·exact Yh H
theorem Mn:∀ {f:Nat} {r:Rd} {al:List Int},okB al->okB (syF bs cl cd dl room sz f r al).2
 | 0,r,al,H=>H
 | f+1,r,al,H=>by
  unfold syF;split
  ·split
   ·exact H
   ·rename_i h;have hk:(sy bs cl r).1.k=0:=by
     by_cases e:(sy bs cl r).1.k=0
     ·exact e
     ·exact absurd (.inl e) h
    exact Mn (Yi (zaM hk).2.2.1 H)
  ·exact H
theorem Rs(H:okB al):okB (blk bs dl room sz F r al).2:=by
 unfold blk;split
 ·exact H
 ·split
  ·exact Rr H
  ·split
   ·exact Mn H
   ·split
    ·exact H
    ·exact Mn H
theorem Rt:∀ {f:Nat} {r:Rd} {al:List Int},okB al->okB (blF bs dl room sz F f r al).2
 | 0,r,al,H=>H
 | f+1,r,al,H=>by
  unfold blF;split
  ·split
   ·exact Rs H
   ·exact Rt (Rs H)
  ·exact H
end
theorem Zw(H:okB us):okB (zO bs sz us r):=okB_drop' (Rt (okB_drop' H _)) _
theorem Yj(h:(zE bs sz us r).1.k≠0):zA bs sz us r=((zE bs sz us r).1.k,zO bs sz us r,0,()):=by
 have e3:(zT bs sz us r).1=(zE bs sz us r).1:=by unfold zT;rw[Ro h,BE h]
 have e4:zF bs sz us r=(zE bs sz us r).1:=by unfold zF;rw[e3,BD h]
 unfold zA;rw[e4,vP h]
theorem Yk(h:(zT bs sz us r).1.k≠0):zA bs sz us r=((zT bs sz us r).1.k,zO bs sz us r,0,()):=by
 have e4:zF bs sz us r=(zT bs sz us r).1:=by unfold zF;rw[BD h]
 unfold zA;rw[e4,vP h]
theorem Zx(h:(zT bs sz us r).1.k=0)(hs:(zT bs sz us r).2≠yQ 1 (zO bs sz us r)):zA bs sz us r=(4,zO bs sz us r,0,()):=by
 have e4:zF bs sz us r=⟨(zT bs sz us r).1.i,4⟩:=by unfold zF bdK;rw[vP ⟨h,by simpa using hs⟩]
 unfold zA;rw[e4,vP (show(4:Int)≠0 by decide)]
theorem Yn(h:(zT bs sz us r).1.k=0)(hs:(zT bs sz us r).2=yQ 1 (zO bs sz us r)):zA bs sz us r=(1,zO bs sz us r,(zT bs sz us r).1.i/8,()):=by
 have e4:zF bs sz us r=(zT bs sz us r).1:=by unfold zF bdK;rw[vM (fun e=>by rw[hs]at e;simp at e)]
 unfold zA;rw[e4,vM (fun e=>e h)]
end
section
theorem Px:0<=(zH bs).2/\(zH bs).2<65536:=by
 have:=Rm (bs:=bs) (n:=2) (r:=⟨0,0⟩) (x:=0) (m:=1) (by omega) (by omega);have e:(1:Int)*256^2=65536:=by decide
 rw[e]at this;exact this
theorem Xe(h0:0<=x):zS x<=32768:=by
 unfold zS;split
 ·have:(2:Nat)^(x/4096+8).toNat<=2^15:=uW (by decide) (by omega);have e:(2:Nat)^15=32768:=by decide
  omega
 ·omega
theorem zaz:okR bs (zH bs).1:=Fl fun _=>⟨pP _,by simp only;omega⟩
theorem Oe:okR bs (zR bs):=jC zaz
theorem za0:okR bs (zD bs ds).1:=by
 unfold zD;split
 ·exact Pv (by decide) (Fl Oe)
 ·exact Oe
theorem Xf(hi:qaC S h)(s:qaB h h1)(hx:zo h .u8 a bs)(L:bs.length<=65536)
  {cd:Nat}(hd:zo h .u8 ad ds)(hcd:ds.length<=cd)(hdl:ds.length<=1048576)(K0:Kt)(e0 e2 e3 e4:Value) :
  zsD.wp oPP S yb (PZ h (zA bs (zS (zH bs).2) (zD bs ds).2 (zD bs ds).1)) [e0,.slice ad ds.length cd,e2,e3,e4,.int .i64 (zH bs).2,.slice a bs.length c,.int .i64 (zR bs).i,.int .i64 (zR bs).k,.int .i64 (zS (zH bs).2)] h1 [K0]:=by
 simp only[zsD,Tr.wp,z4,Ex.ev,coerce,toInt_int,za,zc,ze,zd,xL,z9,arith,Cst.val,SV.den,zn,zL,zz,zk,zi,zy,vF,vG,vA,vB,vC,vQ,vD,vE,vI,vH,vJ,uC,uG,uD,uL,vV,vK];intro b hb;have hn:=Px (bs:=bs);have wq:(IntKind.i64.wrap ((zH bs).2.tdiv 32)).tmod 2=(zH bs).2/32%2:=by
  rw[uQ (by omega),i64_in _ (by omega),uA (by omega)]
 have hsz:=Xe hn.1;have s2:qaB h1 (upd h1 b (.cells (ints .u8 []) 5)):=Sub.zC hb;have e0':(#[]:Array Value)=ints .u8 []:=rfl;rw[wq];refine⟨fun hc=>?_,fun hc=>?_⟩
 ·have hc:(zH bs).2/32%2=1:=uK.1 hc;refine zb.mono (Jq (c:=c) (hi.sub (s.trans s2)) (hx.sub (s.trans s2)) (by omega) (zR bs) Oe 4) ?_;rintro _ h2 ⟨rfl,rfl⟩;have eI:hig bs 4 (zR bs) 0=zId bs:=rfl;rw[eI];refine⟨_,_,_,_,_,_,rfl,?_⟩;have eD2:(zD bs ds).2=ds:=by unfold zD;rw[vP hc]
  have eD1:(zD bs ds).1=bdK 5 (decide (ds.length=0)||(yQ 1 ds != (zId bs).2)) (zId bs).1:=by unfold zD;rw[vP hc]
  have okD:=za0 (bs:=bs) (ds:=ds);have fin:∀(w:Bool),((zId bs).1.k=0->w=(decide (ds.length=0)||(yQ 1 ds != (zId bs).2)))->((zId bs).1.k≠0->w=false)->(zId bs).1.i=(zD bs ds).1.i/\(if w=true then 5 else(zId bs).1.k)=(zD bs ds).1.k:=by
   intro w h1 h2;rw[eD1];unfold bdK;by_cases hk:(zId bs).1.k=0
   ·rw[<-h1 hk];cases w with
    | false=>rw[vM (by simp)];simp
    | true=>rw[vP ⟨hk,rfl⟩];simp
   ·rw[vM (fun e=>hk e.1),h2 hk];simp
  have go:∀(w:Bool) (e15:Value),((zId bs).1.k=0->w=(decide (ds.length=0)||(yQ 1 ds != (zId bs).2)))->((zId bs).1.k≠0->w=false)->∀(K0:Kt) (e0 e1 e2 e3 e4 e5 e6 e7 e8 e10 e11:Value),
    zsE.wp oPP S yb (PZ h (zA bs (zS (zH bs).2) (zD bs ds).2 (zD bs ds).1)) [e0,e1,e2,e3,e4,e5,e6,e7,e8,.int .i64 (zS (zH bs).2),e10,e11,.slice ad ds.length cd,.slice a bs.length c,.int .i64 (zId bs).1.i,.int .i64 (if w=true then 5 else(zId bs).1.k)] (upd h1 b (.cells (ints .u8 []) 5)) [K0]:=by
   intro w e15 h1 h2 K0 e0 e1 e2 e3 e4 e5 e6 e7 e8 e10 e11;obtain⟨q1,q2⟩:=fin w h1 h2;rw[q1,q2,eD2];exact Xd hi (s.trans s2) hx L (zD bs ds).1 okD hsz (hd.sub (s.trans s2)) hcd hdl K0 _ _ _ _ _ _ _ _ _ _ _
  refine⟨fun hk=>?_,fun hk=>?_⟩
  ·have hk:(zId bs).1.k=0:=uK.1 hk;refine⟨fun hl=>?_,fun hl=>?_⟩
   ·have hl:ds.length≠0:=by simpa using hl
    refine zb.mono (kq (hi.sub (s.trans s2)) 1 ad cd ds (hd.sub (s.trans s2))) ?_;rintro _ h3 ⟨rfl,rfl⟩;refine⟨_,rfl,?_⟩;intro _ _;rw[Ni];refine go _ undef (fun _=>?_) (fun h=>absurd hk h) _ _ _ _ _ _ _ _ _ _ _ _;have:decide (ds.length=0)=false:=by simpa using hl
    rw[this,mT]
   ·have hl:ds.length=0:=by simpa using hl
    intro _ _;exact go true undef (fun _=>by rw[hl];rfl) (fun h=>absurd hk h) _ _ _ _ _ _ _ _ _ _ _ _
  ·have hk:(zId bs).1.k≠0:=by simpa using hk
   intro _ _;exact go false undef (fun h=>absurd h hk) (fun _=>rfl) _ _ _ _ _ _ _ _ _ _ _ _
 ·have hc:(zH bs).2/32%2≠1:=by simpa using hc
  have eD:zD bs ds=(zR bs,[]):=by unfold zD;rw[vM hc]
  intro _;rw[eD];have K:=Xd (S:=S) (c:=c) (us:=[]) hi (s.trans s2) hx L (zR bs) Oe hsz (zo.new (k:=.u8) (h:=h1) (b:=b) (T:=5) (xs:=[])) (cu:=0) (uI _) (by simp) K0;exact K _ _ _ _ _ _ _ _ _ _ _
theorem g_spec_Zlib'(hi:qaC S h)(O:tB.O h v bs)(L:Bf bs)(O2:tB.O h u ds)(L2:Bf ds) :
  zb oPP S BM #[v,u] h (PZ h (xM bs ds)):=by
 obtain⟨a,c,rfl,hc,hx⟩:=Part.ints O;obtain⟨a2,c2,rfl,hc2,hx2⟩:=Part.ints O2;have hL:bs.length<=1048576:=L;have hL2:ds.length<=1048576:=L2;refine ND (vs:=[.slice a bs.length c,.slice a2 ds.length c2]) ⟨rfl,rfl,trivial⟩ hi ?_;simp only[II,Tr.wp,z4,Ex.ev,coerce,toInt_int,za,zc,ze,zd,jA,z9,arith,Cst.val,SV.den,zn,zL,zz,zk,zi,zy,vF,vG,vA,vB,vC,vQ,vL,vR,vD,vE,vI,vH,vJ,uC,uG,uD,uL,vV,vK];refine⟨fun hgt=>?_,fun hle=>?_⟩
 ·have e:xM bs ds=(7,[],0,()):=vP (by omega);rw[e];exact Rp (fun _ _ e=>e)
 have hle:bs.length<=65536:=by omega
 have e:xM bs ds=zA bs (zS (zH bs).2) (zD bs ds).2 (zD bs ds).1:=vM (by omega);rw[e];have hn:=Px (bs:=bs);have ok0:okR bs ⟨0,0⟩:=fun _=>⟨pP _,by simp only;omega⟩
 refine zb.mono (Jq (c:=c) hi hx hL ⟨0,0⟩ ok0 2) ?_;rintro _ h1 ⟨rfl,rfl⟩;have eH:hig bs 2 ⟨0,0⟩ 0=zH bs:=rfl;rw[eH];refine⟨_,_,_,_,_,_,rfl,?_⟩;have t31:(zH bs).2.tmod 31=(zH bs).2%31:=uA hn.1;have t256:IntKind.i64.wrap ((zH bs).2.tdiv 256)=(zH bs).2/256:=by rw[uQ hn.1,i64_in _ (by omega)]
 have t16:((zH bs).2/256).tmod 16=(zH bs).2/256%16:=uA (by omega);have t4096:IntKind.i64.wrap ((zH bs).2.tdiv 4096)=(zH bs).2/4096:=by rw[uQ hn.1,i64_in _ (by omega)]
 rw[t31,t256,t16,t4096];have eW:(decide ((decide (((zH bs).2%31 != 0)=true)||(zH bs).2/256%16 != 8)=true)||decide ((zH bs).2/4096>7))=zW (zH bs).2:=by
  unfold zW;simp only[mW]
 rw[eW];refine zb.mono (xZ hi a c bs (zH bs).1 (zW (zH bs).2)) ?_;rintro _ h2 ⟨rfl,rfl⟩;have eR:bd (zW (zH bs).2) (zH bs).1=zR bs:=rfl;rw[eR];refine⟨_,_,_,_,_,rfl,fun h7=>?_,fun h7=>?_⟩
 ·have wp:IntKind.i64.wrap ((zH bs).2/4096+8)=(zH bs).2/4096+8:=i64_in _ (by omega);rw[wp];refine zb.mono (jK hi ((zH bs).2/4096+8)) ?_;rintro _ h3 ⟨rfl,rfl⟩;refine⟨_,rfl,fun _=>?_⟩;have eS:2^((zH bs).2/4096+8).toNat=zS (zH bs).2:=by unfold zS;rw[vP h7]
  rw[eS];exact Xf hi (fun _ _ e=>e) hx hle hx2 hc2 hL2 _ _ _ _ _
 ·intro _;have eS:(32768:Int)=((zS (zH bs).2:Nat):Int):=by unfold zS;rw[vM h7];rfl
  rw[eS];exact Xf hi (fun _ _ e=>e) hx hle hx2 hc2 hL2 _ _ _ _ _
end
end
end Go.Proofs.YtopmdepgpabipaaGreatDoor
section
namespace Go.Proofs
abbrev Tryz.link:Go.Conc.Lib.WgLink:={ add:=102,done:=104,wait:=105,relMerge:=110,disable:=111,enable:=112,inBubble:=113,associate:=114,fatal:=115,uOr:=116,uAdd:=117,raceRead:=118,uLoad:=119,uStore:=120,disassociate:=121,semrelease:=122,acquire:=123,isAssociated:=124,uCas:=125,raceWrite:=126,semacquire:=127,orU64:=128,addU64:=129,loadU64:=130,storeU64:=131,casU64:=132,tWgP:=188,tUP:=112,tAssoc:=190,tWg:=182,tAU:=180,tU64:=97,tUint:=100,tU32:=70,tPU32:=194,tPAU:=202,tPU64:=204,tNoCopy:=176,tANoCopy:=177,tAlign64:=178 }
theorem Tryz.KU:Go.Conc.Lib.WgLib Tryz.prog Tryz.link:=
 ⟨Tryz.func102,Tryz.func104,Tryz.func105,Tryz.func110,Tryz.func111,Tryz.func112,Tryz.func113,Tryz.func114,Tryz.func115,Tryz.func116,Tryz.func117,Tryz.func118,Tryz.func119,Tryz.func120,Tryz.func121,Tryz.func122,Tryz.func123,Tryz.func124,Tryz.func125,Tryz.func126,Tryz.func127,Tryz.func128,Tryz.func129,Tryz.func130,Tryz.func131,Tryz.func132,Tryz.underlying188,Tryz.runUnderlying188,Tryz.sizeOf188,Tryz.isAgg188,Tryz.zeroValue188,Tryz.underlying112,Tryz.runUnderlying112,Tryz.sizeOf112,Tryz.isAgg112,Tryz.zeroValue112,Tryz.underlying190,Tryz.runUnderlying190,Tryz.sizeOf190,Tryz.isAgg190,Tryz.zeroValue190,Tryz.underlying182,Tryz.runUnderlying182,Tryz.sizeOf182,Tryz.isAgg182,Tryz.zeroValue182,Tryz.underlying180,Tryz.runUnderlying180,Tryz.sizeOf180,Tryz.isAgg180,Tryz.zeroValue180,Tryz.underlying97,Tryz.runUnderlying97,Tryz.sizeOf97,Tryz.isAgg97,Tryz.zeroValue97,Tryz.underlying100,Tryz.runUnderlying100,Tryz.sizeOf100,Tryz.isAgg100,Tryz.zeroValue100,Tryz.underlying70,Tryz.runUnderlying70,Tryz.sizeOf70,Tryz.isAgg70,Tryz.zeroValue70,Tryz.underlying194,Tryz.runUnderlying194,Tryz.sizeOf194,Tryz.isAgg194,Tryz.zeroValue194,Tryz.underlying202,Tryz.runUnderlying202,Tryz.sizeOf202,Tryz.isAgg202,Tryz.zeroValue202,Tryz.underlying204,Tryz.runUnderlying204,Tryz.sizeOf204,Tryz.isAgg204,Tryz.zeroValue204,Tryz.underlying0,Tryz.runUnderlying0,Tryz.sizeOf0,Tryz.isAgg0,Tryz.zeroValue0,Tryz.underlying3,Tryz.runUnderlying3,Tryz.sizeOf3,Tryz.isAgg3,Tryz.zeroValue3,Tryz.underlying4,Tryz.runUnderlying4,Tryz.sizeOf4,Tryz.isAgg4,Tryz.zeroValue4,Tryz.underlying9,Tryz.runUnderlying9,Tryz.sizeOf9,Tryz.isAgg9,Tryz.zeroValue9,Tryz.underlying20,Tryz.runUnderlying20,Tryz.sizeOf20,Tryz.isAgg20,Tryz.zeroValue20,Tryz.underlying21,Tryz.runUnderlying21,Tryz.sizeOf21,Tryz.isAgg21,Tryz.zeroValue21,(by kernel_rfl),(by kernel_rfl)⟩
end Go.Proofs
end
section
namespace Go.Eng
open Go Go.Conc
inductive Rk:Type
 | leaf
 | node (f:World->Rk)
def Rk.lt(a b:Rk):Prop:=∃f w,b=.node f/\a=f w
theorem Rk.wf:WellFounded Rk.lt:=⟨fun a=>by
 induction a with
 | leaf=>exact⟨_,fun b h=>by obtain⟨f,w,h,_⟩:=h;cases h⟩
 | node f ih=>exact⟨_,fun b h=>by obtain⟨g,w,h,rfl⟩:=h;cases h;exact ih w⟩⟩
inductive One {α:Type} (r:α->α->Prop):List α->List α->Prop
 | head {a b:α} {l:List α}:r a b->One r (a::l) (b::l)
 | tail {a:α} {l m:List α}:One r l m->One r (a::l) (a::m)
theorem One.acc{α:Type}{r:α->α->Prop}(hr:WellFounded r):∀l:List α,Acc (One r) l
 | []=>⟨_,fun _ h=>nomatch h⟩
 | b::l=>by
  have key:∀b,Acc r b->∀l,Acc (One r) l->Acc (One r) (b::l):=by
   intro b hb;induction hb with
   | intro b _ ihb=>
    intro l hl;induction hl with
    | intro l hl ihl=>
     refine⟨_,fun m h=>?_⟩;cases h with
     | head h=>exact ihb _ h l ⟨_,hl⟩
     | tail h=>exact ihl _ h
  exact key b (hr.apply b) l (One.acc hr l)
theorem One.set{α:Type}{r:α->α->Prop}:∀ {l:List α} {i:Nat} {x y:α},l[i]? = some x->r y x->One r (l.set i y) l
 | a::l,0,x,y,h,hr=>by simp at h;subst h;exact .head hr
 | a::l,i+1,x,y,h,hr=>.tail (One.set (l:=l) (by simpa using h) hr)
theorem One.wf{α:Type}{r:α->α->Prop}(hr:WellFounded r):WellFounded (One r):=⟨One.acc hr⟩
inductive Runs (P:Program) (Good:Machine->Outcome->World->Trace->Prop):Machine->Trace->Prop
 | fin {m:Machine} {t:Trace} {o:Outcome} {w:World} {ops:Array MemOp}:stepT P m=(.ended o w,ops)->Good m o w (t++ops)->Runs P Good m t
 | step {m m':Machine} {t:Trace} {ops:Array MemOp}:stepT P m=(.next m',ops)->Runs P Good m' (t++ops)->Runs P Good m t
variable {P:Program}
theorem Runs.run{Good:Machine->Outcome->World->Trace->Prop}{m:Machine}{t:Trace}(H:Runs P Good m t) :
  ∃N last o w t',runNT P (N+1) m t=(.ended o w,t')/\runN P N m=.next last/\Go.step P last=.ended o w/\Good last o w t':=by
 induction H with
 | @fin m t o w ops h g=>exact⟨0,m,o,w,_,by simp[runNT,h],rfl,by simp[Go.step,h],g⟩
 | @step m m' t ops h _ ih=>
  obtain⟨N,last,o,w,t',e1,e2,e3,e4⟩:=ih;refine⟨N+1,last,o,w,t',?_,?_,e3,e4⟩
  ·rw[runNT,h];exact e1
  ·rw[runN,Go.step,h];exact e2
def Mo(P:Program)(S:Shared)(m:Bool)(J:World->Prop)(Post:Frame->List Frame->Heap->Prop):Rk->Frame->List Frame->Heap->Prop
 | .leaf,fr,cs,h=>Post fr cs h
 | .node f,fr,cs,h=>∀w,Has w h->J w->∃fr' cs' w' es h',stepG P m (gor fr cs) w=.go (gor fr' cs') w' es/\Kept S h h' w w'/\(∀e∈es,Ai S h w w' e)/\Mo P S m J Post (f w) fr' cs' h'
theorem Safe.zaU{S:Shared}(hS:∀fr cs h Q,¬S.big fr cs h Q){Post:Frame->List Frame->Heap->Prop}{fr:Frame}{cs:List Frame}{h:Heap}(m:Bool)(J:World->Prop)
  (H:Safe P S Post fr cs h):∃r,Mo P S m J Post r fr cs h:=by
 classical
 induction H with
 | done p=>exact⟨.leaf,p⟩
 | step fr' cs' w' es h' hs _ ih=>
  refine⟨.node fun w=>if c:Has w _ then(ih w m c).choose else .leaf,fun w hw _=>?_⟩;obtain⟨h1,h2,h3⟩:=hs w m hw;refine⟨_,_,_,_,_,h1,h2,h3,?_⟩;simp only[dif_pos hw];exact(ih w m hw).choose_spec
 | big h0 f Q e ha hb _ _=>exact absurd hb (hS _ _ _ _)
def Sil(P:Program)(main:Bool)(J:World->Prop)(Stop:Goroutine->World->Prop)(n:Nat)(g:Goroutine):Prop:=
 ∀w,Goes P main (fun _ w₁=>J w₁) Go.ConcR.DC0 Stop n g w
variable {n:Nat}{g:Goroutine}
theorem Wn{main:Bool}{J:World->Prop}{D:World->World->Array Event->Prop}{Stop:Goroutine->World->Prop}{w w':World}
  (H:Goes P main (fun _ w₁=>J w₁) D Stop n g w):Goes P main (fun _ w₁=>J w₁) D Stop n g w':=by
 cases n <;> exact H
variable {w:World}
theorem Sil.of{main:Bool}{J:World->Prop}{Stop:Goroutine->World->Prop}
  (H:Goes P main (fun _ w₁=>J w₁) Go.ConcR.DC0 Stop n g w):Sil P main J Stop n g:=fun _=>Wn H
theorem Sil.cases{main:Bool}{J:World->Prop}{Stop:Goroutine->World->Prop}(H:Sil P main J Stop n g) :
  (∀w,J w->Stop g w)\/∃k,n=k+1/\g.status=.running/\∀w,J w->∃g',stepG P main g w=.go g' w #[]/\Sil P main J Stop k g':=by
 cases n with
 | zero=>exact .inl fun w hw=>H w w hw
 | succ n=>
  rcases H default with h | ⟨hs,h⟩
  ·exact .inl h
  ·refine .inr ⟨n,rfl,hs,fun w hw=>?_⟩;have:=h w hw;revert this;cases stepG P main g w <;> simp only[GStep.goes,false_implies]
   rintro⟨⟨rfl,rfl⟩,h2⟩;exact⟨_,rfl,Sil.of h2⟩
end Go.Eng
namespace Go.Eng
open Go Go.Conc
open Go.ConcR (g_of_ofEvents)
structure WS where
 stage:Nat
 rk:Rk
 fuel:Nat
 heap:Heap
structure Com(w0:World)(S:Shared)(N0:Nat)(h:Heap)(T:List WS)(w:World)(t:Trace):Prop where
 env:w.os=w0.os/\w.tape=w0.tape/\w.output=w0.output
 has:Has w h
 inv:Inv S h
 hasW:∀(i:Nat) (x:WS),T[i]? = some x->Has w x.heap
 apart:∀(i:Nat) (x:WS),T[i]? = some x->∀b,¬S b->x.heap b≠none->h b=none
 apart2:∀(i j:Nat) (x y:WS),T[i]? = some x->T[j]? = some y->i≠j->∀b,¬S b->x.heap b≠none->y.heap b=none
 nr:∀said,¬Race said t
 gsb:∀(i:Nat) (op:MemOp),t[i]? = some op->op.g<=T.length
 lo:∀(i:Nat) (a:Touch),touchAt t i=some a->∃ad,a.loc=.cell ad/\ad.block<w.heap.size
 norel:∀(i:Nat) (a:Addr),t.act? i≠some (.mark (.release a))
 kn:∀(i:Nat) (a:Touch) (ad:Addr),touchAt t i=some a->a.loc=.cell ad->h ad.block≠none->Knows t 0 i\/(S ad.block/\a.write=false/\a.kind=.plain/\∃k,N0<k/\t.g? i=some k)
 knW:∀(k:Nat) (x:WS),T[k]? = some x->∀(i:Nat) (a:Touch) (ad:Addr),touchAt t i=some a->a.loc=.cell ad->x.heap ad.block≠none->(¬S ad.block\/a.write=true)->Knows t (k+1) i
 ho:∀(i k:Nat),t.g? i=some k->k≠0->k<=N0->t.counts i->Knows t 0 i
variable {b g i k:Nat}{fn:FuncId}{pos:String}{hA hA':Heap}
section
variable {S:Shared}{N0:Nat}{h h' : Heap}{T T' : List WS}{w0 w w' : World}{t u:Trace}{es:Array Event}
theorem yu{a:Touch}(ha:touchAt (t++u) i=some a):(i<t.size/\touchAt t i=some a)\/∃op∈u,op.act.touch? = some a/\(t++u)[i]? = some op:=by
 obtain⟨op,ho,hoa⟩:=touch_of ha;rcases getElem?_append_cases ho with⟨hlt,h1⟩ | ⟨_,hu⟩
 ·exact .inl ⟨hlt,by rw[touchAt_of h1];exact hoa⟩
 ·exact .inr ⟨op,hu,hoa,ho⟩
theorem g?_cases(hg:(t++u).g? i=some k):(i<t.size/\t.g? i=some k)\/∃op∈u,op.g=k/\(t++u)[i]? = some op:=by
 obtain⟨op,ho,hoa⟩:=vT.1 hg;rcases getElem?_append_cases ho with⟨hlt,h1⟩ | ⟨_,hu⟩
 ·exact .inl ⟨hlt,by simp[Trace.g?,h1,hoa]⟩
 ·exact .inr ⟨op,hu,hoa,ho⟩
theorem yK{op:MemOp}(hop:op∈MemOp.ofEvents g fn pos es):∃e∈es,op={ g,fn,pos,act:=.ofEvent e }:=by
 unfold MemOp.ofEvents at hop;split at hop
 ·simp at hop
 ·obtain⟨e,he,rfl⟩:=Array.mem_map.1 hop;exact⟨e,he,rfl⟩
theorem jD{op:MemOp}{b:Touch}(hes:∀e∈es,Ai S h w w' e)(hop:op∈MemOp.ofEvents g fn pos es)(hb:op.act.touch? = some b) :
  ∃ad,b.loc=.cell ad/\b.kind=.plain/\(h ad.block≠none\/w.heap.size<=ad.block)/\(b.write=true->¬S ad.block)/\ad.block<w'.heap.size:=by
 obtain⟨e,he,rfl⟩:=yK hop;rcases hes e he with⟨a,h1,h2,h3,h4⟩ | ⟨m,hm,rfl⟩
 ·obtain⟨l,wr,sy⟩:=e;simp only at h1 h2 h4;subst h1 h2;have:MemAct.ofEvent ⟨.cell a,wr,false⟩=.access ⟨.cell a,wr,false⟩:=by cases wr <;> rfl
  simp only[this,MemAct.touch?,uY]at hb;subst hb;exact⟨a,rfl,rfl,h3,h4⟩
 ·cases m <;> simp[Quiet,MemAct.ofEvent,MemAct.touch?]at hb hm
theorem KV{op:MemOp}(hes:∀e∈es,Ai S h w w' e)(hop:op∈MemOp.ofEvents g fn pos es)(a:Addr):op.act ≠ .mark (.release a):=by
 obtain⟨e,he,rfl⟩:=yK hop;rcases hes e he with⟨a,h1,h2,h3,h4⟩ | ⟨m,hm,rfl⟩
 ·obtain⟨l,wr,sy⟩:=e;simp only at h1 h2;subst h1 h2;have:MemAct.ofEvent ⟨.cell a,wr,false⟩=.access ⟨.cell a,wr,false⟩:=by cases wr <;> rfl
  simp[this]
 ·cases m <;> simp[Quiet,MemAct.ofEvent]at hm ⊢
theorem UD(K:Kept S hA hA' w w')(H:Has w hA)(hb:b<w.heap.size)(hS:hA b=none\/S b):w'.heap[b]? = w.heap[b]? := by
 cases hh:hA b with
 | none=>exact(K.old b hb hh).1
 | some o=>
  have hs:S b:=hS.resolve_left (by rw[hh];simp);have h1:=K.ro b hs;rw[hh]at h1;rw[K.has b o h1,H b o hh]
theorem Js{hA hA' hB:Heap}(K:Kept S hA hA' w w')(H:Has w hA)(HB:Has w hB)(hap:∀b,¬S b->hB b≠none->hA b=none):Has w' hB:=fun b o hb=>by
 have hlt:=HB.lt hb;rw[UD K H hlt (by
  by_cases hs:S b
  ·exact .inr hs
  ·exact .inl (hap b hs (by rw[hb];simp)))]
 exact HB b o hb
theorem FO(K:Kept S hA hA' w w')(hb:b<w.heap.size)(h':hA' b≠none):hA b≠none:=fun hn=>h' (K.old b hb hn).2
theorem jh(h:Knows t g i):Knows (t++u) g i:=Knows.app u h
theorem Ej(h:∀(i:Nat) (a:Addr),t.act? i≠some (.mark (.release a)))(hu:∀op∈u,∀a,op.act ≠ .mark (.release a)):∀(i:Nat) (a:Addr),(t++u).act? i≠some (.mark (.release a)):=by
 intro i a e;obtain⟨op,ho,hoa⟩:=vT.1 e;rcases getElem?_append_cases ho with⟨_,h1⟩ | ⟨_,h1⟩
 ·exact h i a (by simp[Trace.act?,h1,hoa])
 ·exact hu op h1 a hoa
theorem Ij{n:Nat}(h:∀(i:Nat) (op:MemOp),t[i]? = some op->op.g<=n)(hu:∀op∈u,op.g<=n):∀(i:Nat) (op:MemOp),(t++u)[i]? = some op->op.g<=n:=by
 intro i op ho;rcases getElem?_append_cases ho with⟨_,h1⟩ | ⟨_,h1⟩
 ·exact h i op h1
 ·exact hu op h1
theorem KW{N0:Nat}(h:∀(i k:Nat),t.g? i=some k->k≠0->k<=N0->t.counts i->Knows t 0 i)(hu:∀op∈u,op.g=0\/N0<op.g\/op.act.touch? = none) :
  ∀(i k:Nat),(t++u).g? i=some k->k≠0->k<=N0->(t++u).counts i->Knows (t++u) 0 i:=by
 intro i k hg hk hN hc;rcases g?_cases hg with⟨hlt,h1⟩ | ⟨op,h1,rfl,h2⟩
 ·exact jh (h i k h1 hk hN ((counts_old hlt).1 hc))
 ·rcases hu op h1 with h3 | h3 | h3
  ·exact absurd h3 hk
  ·omega
  ·obtain⟨x,hx,_⟩:=hc;simp[Trace.act?,h2,h3]at hx
theorem Com.main(C:Com w0 S N0 h T w t)(K:Kept S h h' w w')(hes:∀e∈es,Ai S h w w' e)(fn:FuncId)(pos:String):Com w0 S N0 h' T w' (t++MemOp.ofEvents 0 fn pos es):=by
 have hg:∀op∈MemOp.ofEvents 0 fn pos es,op.g=0:=g_of_ofEvents;have own:∀ {i:Nat} {op:MemOp},op∈MemOp.ofEvents 0 fn pos es->(t++MemOp.ofEvents 0 fn pos es)[i]? = some op->Knows (t++MemOp.ofEvents 0 fn pos es) 0 i:=fun h1 h2=>by
  have:=knows_own h2;rwa[hg _ h1]at this
 refine⟨⟨K.os.trans C.env.1,K.tape.trans C.env.2.1,K.output.trans C.env.2.2⟩,K.has,?_,?_,?_,C.apart2,?_,?_,?_,?_,?_,?_,?_⟩
 ·intro b hb hn;rw[K.ro b hb]at hn;exact C.inv b hb hn
 ·exact fun i x hx=>Js K C.has (C.hasW i x hx) (C.apart i x hx)
 ·intro i x hx b hS hb;have hlt:b<w.heap.size:=by
   cases hh:x.heap b with
   | none=>exact absurd hh hb
   | some o=>exact(C.hasW i x hx).lt hh
  exact(K.old b hlt (C.apart i x hx b hS hb)).2
 ·intro said;refine noRace_append (C.nr said) hg fun i a ha op hop b hb hc=>?_
  obtain⟨ad,h1,h2,h3,h4,_⟩:=jD hes hop hb;have hal:a.loc=.cell ad:=hc.1.trans h1;obtain⟨ad2,e2,hlt⟩:=C.lo i a ha;rw[hal]at e2;cases e2
  rcases C.kn i a ad ha hal (h3.resolve_right (by omega))with h5 | ⟨h5,h6,_⟩
  ·exact h5
  ·rcases hc.2.2.1 with h7 | h7
   ·rw[h6]at h7;cases h7
   ·exact absurd h5 (h4 h7)
 ·exact Ij C.gsb fun op hop=>by rw[hg op hop];omega
 ·intro i a ha;rcases yu ha with⟨_,h1⟩ | ⟨op,h1,h2,_⟩
  ·obtain⟨ad,e,hlt⟩:=C.lo i a h1;exact⟨ad,e,lY hlt K.size⟩
  ·obtain⟨ad,e1,_,_,_,e5⟩:=jD hes h1 h2;exact⟨ad,e1,e5⟩
 ·exact Ej C.norel fun op hop a=>KV hes hop a
 ·intro i a ad ha hl hh;rcases yu ha with⟨hlt,h1⟩ | ⟨op,h1,h2,h3⟩
  ·obtain⟨ad2,e2,hlt2⟩:=C.lo i a h1;rw[hl]at e2;cases e2
   rcases C.kn i a ad h1 hl (FO K hlt2 hh)with h4 | ⟨h4,h5,h6,k,h7,h8⟩
   ·exact .inl (jh h4)
   ·exact .inr ⟨h4,h5,h6,k,h7,by rw[g?_old hlt];exact h8⟩
  ·exact .inl (own h1 h3)
 ·intro k x hx i a ad ha hl hh hc;rcases yu ha with⟨hlt,h1⟩ | ⟨op,h1,h2,h3⟩
  ·exact jh (C.knW k x hx i a ad h1 hl hh hc)
  ·obtain⟨ad2,e1,_,e3,e4,_⟩:=jD hes h1 h2;rw[hl]at e1;cases e1
   have hlt:ad.block<w.heap.size:=by
    cases hx2:x.heap ad.block with
    | none=>exact absurd hx2 hh
    | some o=>exact(C.hasW k x hx).lt hx2
   have hne:h ad.block≠none:=e3.resolve_right (by omega);rcases hc with hc | hc
   ·exact absurd (C.apart k x hx _ hc hh) hne
   ·exact absurd (C.apart k x hx _ (e4 hc) hh) hne
 ·exact KW C.ho fun op hop=>.inl (hg op hop)
theorem yH{α:Type}{l:List α}{i j:Nat}{x y:α}(h:(l.set i x)[j]? = some y):(i=j/\y=x)\/(i≠j/\l[j]? = some y):=by
 rw[pS]at h;by_cases e:i=j
 ·subst e;simp only[uL]at h;split at h
  ·exact .inl ⟨rfl,(pQ h).symm⟩
  ·cases h
 ·rw[vM e]at h;exact .inr ⟨e,h⟩
theorem KX{g:Heap}(H:Has w g)(hb:g b≠none):b<w.heap.size:=by
 cases hh:g b with
 | none=>exact absurd hh hb
 | some o=>exact H.lt hh
theorem Com.worker(C:Com w0 S N0 h T w t){x:WS}(hx:T[k]? = some x)(hN:N0<=k)(K:Kept S x.heap h' w w')(hes:∀e∈es,Ai S x.heap w w' e)(fn:FuncId)(pos:String){y:WS}(hy:y.heap=h') :
  Com w0 S N0 h (T.set k y) w' (t++MemOp.ofEvents (k+1) fn pos es):=by
 have hg:∀op∈MemOp.ofEvents (k+1) fn pos es,op.g=k+1:=g_of_ofEvents;have hW:=C.hasW k x hx;have hkl:k<T.length:=(vS.1 hx).1;have own:∀ {i:Nat} {op:MemOp},op∈MemOp.ofEvents (k+1) fn pos es->(t++MemOp.ofEvents (k+1) fn pos es)[i]? = some op->Knows (t++MemOp.ofEvents (k+1) fn pos es) (k+1) i:=fun h1 h2=>by
  have:=knows_own h2;rwa[hg _ h1]at this
 have apM:∀b,¬S b->h b≠none->x.heap b=none:=fun b hS hb=>by
  cases hh:x.heap b with
  | none=>rfl
  | some o=>exact absurd (C.apart k x hx b hS (by rw[hh];simp)) hb
 have ap2:∀(j:Nat) (z:WS),T[j]? = some z->k≠j->∀b,¬S b->z.heap b≠none->x.heap b=none:=fun j z hz hj b hS hb=>C.apart2 j k z x hz hx (pN hj) b hS hb
 refine⟨⟨K.os.trans C.env.1,K.tape.trans C.env.2.1,K.output.trans C.env.2.2⟩,Js K hW C.has apM,C.inv,?_,?_,?_,?_,?_,?_,?_,?_,?_,?_⟩
 ·intro j z hz;rcases yH hz with⟨rfl,rfl⟩ | ⟨hj,hz⟩
  ·rw[hy];exact K.has
  ·exact Js K hW (C.hasW j z hz) (ap2 j z hz hj)
 ·intro j z hz b hS hb;rcases yH hz with⟨rfl,rfl⟩ | ⟨hj,hz⟩
  ·rw[hy]at hb;cases hh:h b with
   | none=>rfl
   | some o=>
    have hlt:=KX C.has (b:=b) (by rw[hh];simp);exact absurd (apM b hS (by rw[hh];simp)) (FO K hlt hb)
  ·exact C.apart j z hz b hS hb
 ·intro i j z z2 hz hz2 hij b hS hb;rcases yH hz with⟨rfl,rfl⟩ | ⟨hj,hz'⟩
  ·rcases yH hz2 with⟨rfl,_⟩ | ⟨hj2,hz2⟩
   ·exact absurd rfl hij
   ·rw[hy]at hb;cases hh:z2.heap b with
    | none=>rfl
    | some o=>
     have hlt:=KX (C.hasW j z2 hz2) (b:=b) (by rw[hh];simp);exact absurd (ap2 j z2 hz2 hij b hS (by rw[hh];simp)) (FO K hlt hb)
  ·rcases yH hz2 with⟨rfl,rfl⟩ | ⟨hj2,hz2⟩
   ·rw[hy];have hlt:=KX (C.hasW i z hz') (b:=b) hb;exact(K.old b hlt (ap2 i z hz' hj b hS hb)).2
   ·exact C.apart2 i j z z2 hz' hz2 hij b hS hb
 ·intro said;refine noRace_append (C.nr said) hg fun i a ha op hop b hb hc=>?_
  obtain⟨ad,h1,h2,h3,h4,_⟩:=jD hes hop hb;have hal:a.loc=.cell ad:=hc.1.trans h1;obtain⟨ad2,e2,hlt⟩:=C.lo i a ha;rw[hal]at e2;cases e2
  refine C.knW k x hx i a ad ha hal (h3.resolve_right (by omega)) ?_;rcases hc.2.2.1 with h7 | h7
  ·exact .inr h7
  ·exact .inl (h4 h7)
 ·rw[uR];exact Ij C.gsb fun op hop=>by rw[hg op hop];omega
 ·intro i a ha;rcases yu ha with⟨_,h1⟩ | ⟨op,h1,h2,_⟩
  ·obtain⟨ad,e,hlt⟩:=C.lo i a h1;exact⟨ad,e,lY hlt K.size⟩
  ·obtain⟨ad,e1,_,_,_,e5⟩:=jD hes h1 h2;exact⟨ad,e1,e5⟩
 ·exact Ej C.norel fun op hop a=>KV hes hop a
 ·intro i a ad ha hl hh;rcases yu ha with⟨hlt,h1⟩ | ⟨op,h1,h2,h3⟩
  ·rcases C.kn i a ad h1 hl hh with h4 | ⟨h4,h5,h6,q,h7,h8⟩
   ·exact .inl (jh h4)
   ·exact .inr ⟨h4,h5,h6,q,h7,by rw[g?_old hlt];exact h8⟩
  ·obtain⟨ad2,e1,e2,e3,e4,_⟩:=jD hes h1 h2;rw[hl]at e1;cases e1
   have hlt:=KX C.has hh;have hne:=e3.resolve_right (by omega);have hS:S ad.block:=by
    refine lJ fun hS=>?_
    exact hne (apM _ hS hh)
   refine .inr ⟨hS,?_,e2,k+1,by omega,by simp[Trace.g?,h3,hg op h1]⟩;cases hw:a.write with
   | false=>rfl
   | true=>exact absurd hS (e4 hw)
 ·intro j z hz i a ad ha hl hh hc;rcases yu ha with⟨hlt,h1⟩ | ⟨op,h1,h2,h3⟩
  ·rcases yH hz with⟨rfl,rfl⟩ | ⟨hj,hz⟩
   ·rw[hy]at hh;obtain⟨ad2,e2,hlt2⟩:=C.lo i a h1;rw[hl]at e2;cases e2
    exact jh (C.knW k x hx i a ad h1 hl (FO K hlt2 hh) hc)
   ·exact jh (C.knW j z hz i a ad h1 hl hh hc)
  ·rcases yH hz with⟨rfl,rfl⟩ | ⟨hj,hz⟩
   ·exact own h1 h3
   ·obtain⟨ad2,e1,_,e3,e4,_⟩:=jD hes h1 h2;rw[hl]at e1;cases e1
    have hlt:=KX (C.hasW j z hz) hh;have hne:=e3.resolve_right (by omega);rcases hc with hc | hc
    ·exact absurd (ap2 j z hz hj _ hc hh) hne
    ·exact absurd (ap2 j z hz hj _ (e4 hc) hh) hne
 ·exact KW C.ho fun op hop=>.inr (.inl (by rw[hg op hop];omega))
theorem Com.other(C:Com w0 S N0 h T w t)(hgl:g<=T.length)(hu:∀op∈u,op.g=g)(hT:T'.length=T.length)(hTs:∀(i:Nat) (y:WS),T'[i]? = some y->∃x,T[i]? = some x/\∀b,y.heap b≠none->y.heap b=x.heap b)
  (he:w'.os=w.os/\w'.tape=w.tape/\w'.output=w.output)(hs:w'.heap.size=w.heap.size)(hh:∀b,(h b≠none\/∃(i:Nat) (x:WS),T[i]? = some x/\x.heap b≠none)->w'.heap[b]? = w.heap[b]?)
  (ht:∀op∈u,∀b,op.act.touch? = some b->∃ad,b.loc=.cell ad/\ad.block<w.heap.size/\h ad.block=none/\(∀(i:Nat) (x:WS),T[i]? = some x->x.heap ad.block=none)/\∀(said:Bool) (i:Nat) (a:Touch),touchAt t i=some a->a.conflicts said b->Knows t g i)
  (hr:∀op∈u,∀a,op.act ≠ .mark (.release a))(hN:g=0\/N0<g\/∀op∈u,op.act.touch? = none):Com w0 S N0 h T' w' (t++u):=by
 have sub:∀ {i:Nat} {y:WS},T'[i]? = some y->∃x,T[i]? = some x/\∀b,y.heap b≠none->x.heap b≠none:=fun hy=>by
  obtain⟨x,hx,hb⟩:=hTs _ _ hy;exact⟨x,hx,fun b h=>by rw[<-hb b h];exact h⟩
 refine⟨⟨he.1.trans C.env.1,he.2.1.trans C.env.2.1,he.2.2.trans C.env.2.2⟩,?_,C.inv,?_,?_,?_,?_,?_,?_,Ej C.norel hr,?_,?_,?_⟩
 ·intro b o hb;rw[hh b (.inl (by rw[hb];simp))];exact C.has b o hb
 ·intro i y hy b o hb;obtain⟨x,hx,hb2⟩:=hTs i y hy;have e:=hb2 b (by rw[hb];simp);rw[hb]at e;rw[hh b (.inr ⟨i,x,hx,by rw[<-e];simp⟩)];exact C.hasW i x hx b o e.symm
 ·intro i y hy b hS hb;obtain⟨x,hx,hb2⟩:=sub hy;exact C.apart i x hx b hS (hb2 b hb)
 ·intro i j y z hy hz hij b hS hb;obtain⟨x,hx,hb2⟩:=sub hy;obtain⟨x2,hx2,hb3⟩:=sub hz;cases hzb:z.heap b with
  | none=>rfl
  | some o=>exact absurd (C.apart2 i j x x2 hx hx2 hij b hS (hb2 b hb)) (hb3 b (by rw[hzb];simp))
 ·intro said;refine noRace_append (C.nr said) hu fun i a ha op hop b hb hc=>?_
  obtain⟨ad,_,_,_,_,h5⟩:=ht op hop b hb;exact h5 said i a ha hc
 ·rw[hT];exact Ij C.gsb fun op hop=>by rw[hu op hop];exact hgl
 ·intro i a ha;rcases yu ha with⟨_,h1⟩ | ⟨op,h1,h2,_⟩
  ·obtain⟨ad,e,hlt⟩:=C.lo i a h1;exact⟨ad,e,by omega⟩
  ·obtain⟨ad,e1,e2,_⟩:=ht op h1 a h2;exact⟨ad,e1,by omega⟩
 ·intro i a ad ha hl hb;rcases yu ha with⟨hlt,h1⟩ | ⟨op,h1,h2,h3⟩
  ·rcases C.kn i a ad h1 hl hb with h4 | ⟨h4,h5,h6,q,h7,h8⟩
   ·exact .inl (jh h4)
   ·exact .inr ⟨h4,h5,h6,q,h7,by rw[g?_old hlt];exact h8⟩
  ·obtain⟨ad2,e1,_,e3,_⟩:=ht op h1 a h2;rw[hl]at e1;cases e1
   exact absurd e3 hb
 ·intro k y hy i a ad ha hl hb hc;obtain⟨x,hx,hb2⟩:=sub hy;rcases yu ha with⟨hlt,h1⟩ | ⟨op,h1,h2,h3⟩
  ·exact jh (C.knW k x hx i a ad h1 hl (hb2 _ hb) hc)
  ·obtain⟨ad2,e1,_,_,e4,_⟩:=ht op h1 a h2;rw[hl]at e1;cases e1
   exact absurd (e4 k x hx) (hb2 _ hb)
 ·exact KW C.ho fun op hop=>by
   rcases hN with h | h | h
   ·exact .inl (by rw[hu op hop,h])
   ·exact .inr (.inl (by rw[hu op hop];exact h))
   ·exact .inr (.inr (h op hop))
end
end Go.Eng
namespace Go.Eng
open Go Go.Conc Go.ConcN
open Go.ConcR (KK wgBlock WgAt stA smA rd wr mk g_of_ofEvents Bk DC0)
structure Ph where
 ty:TypeId
 Wg:Nat
 C:Nat
 ety:TypeId
 n:Nat
 S:Shared
 val:Nat->Value
def Ph.pay(Φ:Ph)(w:World):Prop:=∃cs:Array Value,w.heap[Φ.C]? = some (.cells cs Φ.ety)/\cs.size=Φ.n
def Ph.J(Φ:Ph)(w:World):Prop:=WgLive Φ.ty Φ.Wg w/\Φ.pay w
section
variable (P:Program)(Φ:Ph)
def AtD4(g:Goroutine)(w:World):Prop:=
 g.status=.running/\mayWake P g=true/\(WgAt Φ.ty Φ.Wg w 0 0->∃g',stepG P false g w=.go g' (w.setCell (smA Φ.Wg) (.int .u32 1)) (semEvents (smA Φ.Wg))/\∃q,QuitsD P q 1 g')
def AtD3(g:Goroutine)(w:World):Prop:=
 g.status=.running/\(WgAt Φ.ty Φ.Wg w 1 0->∃g',stepG P false g w=.go g' (w.setCell (stA Φ.Wg) (.int .u64 0)) #[wr (stA Φ.Wg)]/\∃m,Sil P false Φ.J (AtD4 P Φ) m g')
def AtD2(g:Goroutine)(w:World):Prop:=
 g.status=.running/\(WgAt Φ.ty Φ.Wg w 1 0->∃g',stepG P false g w=.go g' w #[rd (stA Φ.Wg)]/\∃m,Sil P false Φ.J (AtD3 P Φ) m g')
def AtD1(g:Goroutine)(w:World):Prop:=
 g.status=.running/\∀v wt:Nat,wt<=1->v<2147483647->WgAt Φ.ty Φ.Wg w ((v+1)*KK+wt) 0 ->
  ∃g',stepG P false g w=.go g' (w.setCell (stA Φ.Wg) (.int .u64 (v*KK+wt))) #[rd (stA Φ.Wg),wr (stA Φ.Wg)] /\
   ((v=0/\wt=1)->∃m,Sil P false Φ.J (AtD2 P Φ) m g')/\(¬(v=0/\wt=1)->∃q,QuitsD P q 1 g')
def AtK1(g:Goroutine)(w:World):Prop:=
 g.status=.running/\∃g',stepG P false g w=.go g' w #[mk .disable]/\∃m,Sil P false Φ.J (AtD1 P Φ) m g'
def AtR0(g:Goroutine)(w:World):Prop:=
 g.status=.running/\∃g',stepG P false g w=.go g' w #[mk (.releaseMerge (stA Φ.Wg))]/\∃m,Sil P false Φ.J (AtK1 P Φ) m g'
def Ik(i:Nat)(fr:Frame)(cs:List Frame)(h:Heap):Prop:=
 ∀w,Has w h->Φ.J w->∃g',stepG P false (gor fr cs) w=.go g' (w.setCell ⟨Φ.C,i,none⟩ (Φ.val i)) #[⟨.cell ⟨Φ.C,i,none⟩,true,false⟩]/\∃m,Sil P false Φ.J (AtR0 P Φ) m g'
def Works(i:Nat)(fr:Frame)(cs:List Frame)(h:Heap):Prop:=∃r,Mo P Φ.S false Φ.J (Ik P Φ i) r fr cs h
def Py(Nx:Frame->List Frame->Prop)(g:Goroutine)(_:World):Prop:=∃fr cs,g=gor fr cs/\Nx fr cs
def H7(Nx:Frame->List Frame->Prop)(g:Goroutine)(w:World):Prop:=
 g.status=.running/\∃g',stepG P true g w=.go g' w #[mk .enable]/\∃m,Sil P true Φ.J (Py Nx) m g'
def Pz(Nx:Frame->List Frame->Prop)(g:Goroutine)(w:World):Prop:=
 g.status=.running/\∃g',stepG P true g w=.go g' w #[mk (.read (smA Φ.Wg))]/\∃m,Sil P true Φ.J (H7 P Φ Nx) m g'
def AtA1(Nx:Frame->List Frame->Prop)(g:Goroutine)(w:World):Prop:=
 g.status=.running/\∀v:Nat,v<2147483647->WgAt Φ.ty Φ.Wg w (v*KK) 0 ->
  ∃g',stepG P true g w=.go g' (w.setCell (stA Φ.Wg) (.int .u64 ((v+1)*KK))) #[rd (stA Φ.Wg),wr (stA Φ.Wg)] /\
   (v=0->∃m,Sil P true Φ.J (Pz P Φ Nx) m g')/\(v≠0->∃m,Sil P true Φ.J (H7 P Φ Nx) m g')
def Mp(Nx:Frame->List Frame->Prop)(g:Goroutine)(w:World):Prop:=
 g.status=.running/\∃g',stepG P true g w=.go g' w #[mk .disable]/\∃m,Sil P true Φ.J (AtA1 P Φ Nx) m g'
def Bi(Nx:Frame->List Frame->Prop)(fr:Frame)(cs:List Frame):Prop:=∃m,Sil P true Φ.J (Mp P Φ Nx) m (gor fr cs)
def Jt(Nx:Frame->List Frame->Prop)(g:Goroutine)(w:World):Prop:=
 g.status=.running/\∃fr cs,stepG P true g w=.go (gor fr cs) w #[mk (.acquire (stA Φ.Wg))]/\Nx fr cs
def H9(Nx:Frame->List Frame->Prop)(g:Goroutine)(w:World):Prop:=
 g.status=.running/\∃g',stepG P true g w=.go g' w #[mk .enable]/\∃m,Sil P true Φ.J (Jt P Φ Nx) m g'
def AtW4(Nx:Frame->List Frame->Prop)(g:Goroutine)(w:World):Prop:=
 g.status=.running/\(WgAt Φ.ty Φ.Wg w 0 0->∃g',stepG P true g w=.go g' w #[rd (stA Φ.Wg)]/\∃m,Sil P true Φ.J (H9 P Φ Nx) m g')
def AtW3(Nx:Frame->List Frame->Prop)(g:Goroutine)(w:World):Prop:=
 g.status=.running/\g.offers=none /\
  ((∃st,WgAt Φ.ty Φ.Wg w st 0)->stepG P true g w=.go { g with status:=.blocked } w #[]) /\
  (WgAt Φ.ty Φ.Wg w 0 1->∃g',stepG P true g w=.go g' (w.setCell (smA Φ.Wg) (.int .u32 0)) (semEvents (smA Φ.Wg))/\∃m,Sil P true Φ.J (AtW4 P Φ Nx) m g')
def P7(Nx:Frame->List Frame->Prop)(g:Goroutine)(w:World):Prop:=
 g.status=.running/\∃g',stepG P true g w=.go g' w #[mk (.write (smA Φ.Wg))]/\∃m,Sil P true Φ.J (AtW3 P Φ Nx) m g'
def AtW2(Nx:Frame->List Frame->Prop)(Anch:Goroutine->Prop)(vs:Nat)(g:Goroutine)(w:World):Prop:=
 g.status=.running/\∀v:Nat,v<2147483648->WgAt Φ.ty Φ.Wg w (v*KK) 0 ->
  (v=vs->∃g',stepG P true g w=.go g' (w.setCell (stA Φ.Wg) (.int .u64 (v*KK+1))) #[rd (stA Φ.Wg),wr (stA Φ.Wg)]/\∃m,Sil P true Φ.J (P7 P Φ Nx) m g') /\
  (v≠vs->∃g',stepG P true g w=.go g' w #[rd (stA Φ.Wg)]/\∃m,Sil P true Φ.J (fun g _=>Anch g) m g')
def AtW1(Nx:Frame->List Frame->Prop)(Anch:Goroutine->Prop)(g:Goroutine)(w:World):Prop:=
 g.status=.running/\∀v:Nat,v<2147483648->WgAt Φ.ty Φ.Wg w (v*KK) 0->∃g',stepG P true g w=.go g' w #[rd (stA Φ.Wg)] /\
  (v=0->∃m,Sil P true Φ.J (H9 P Φ Nx) m g')/\(v≠0->∃m,Sil P true Φ.J (AtW2 P Φ Nx Anch v) m g')
def zaV(Anch:Goroutine->Prop)(g:Goroutine)(w:World):Prop:=
 g.status=.running/\∃g',stepG P true g w=.go g' w #[mk .disable]/\∃m,Sil P true Φ.J (fun g _=>Anch g) m g'
def kV(Nx:Frame->List Frame->Prop)(fr:Frame)(cs:List Frame):Prop:=
 ∃Anch:Goroutine->Prop,(∀g,Anch g->∃m,Sil P true Φ.J (AtW1 P Φ Nx Anch) m g)/\∃m,Sil P true Φ.J (zaV P Φ Anch) m (gor fr cs)
def CP(i:Nat)(Nx:Frame->List Frame->Heap->Prop)(fr:Frame)(cs:List Frame)(h:Heap):Prop:=
 ∃h1 hc:Heap,Sub h1 h/\Sub hc h/\(∀b,¬Φ.S b->hc b≠none->h1 b=none)/\(∀b,Φ.S b->h1 b=h b) /\
  ∀w,Has w h->Φ.J w->∃fr' cs' frc csc,stepG P true (gor fr cs) w=.spawn (gor fr' cs') (gor frc csc) w #[]/\Works P Φ i frc csc hc/\Nx fr' cs' h1
def Sp(Q:Frame->List Frame->Heap->Prop):Nat->Frame->List Frame->Heap->Prop
 | 0=>fun fr cs h=>Safe P Φ.S (fun fr cs h=>kV P Φ (fun fr' cs'=>Q fr' cs' h) fr cs) fr cs h
 | r+1=>fun fr cs h=>Safe P Φ.S (fun fr cs h=>Bi P Φ (fun fr' cs'=>Safe P Φ.S (fun fr cs h=>CP P Φ (Φ.n-(r+1)) (Sp Q r) fr cs h) fr' cs' h) fr cs) fr cs h
end
def emp:Heap:=fun _=>none
inductive WSit (P:Program) (Φ:Ph) (i:Nat):WS->Nat->Goroutine->Prop
 | put {fr:Frame} {cs:List Frame} {rk:Rk} {f:Nat} {h:Heap}:Mo P Φ.S false Φ.J (Ik P Φ i) rk fr cs h->WSit P Φ i ⟨8,rk,f,h⟩ 0 (gor fr cs)
 | rel {g:Goroutine} {rk:Rk} {m:Nat}:Sil P false Φ.J (AtR0 P Φ) m g->WSit P Φ i ⟨7,rk,m,emp⟩ 0 g
 | dis {g:Goroutine} {rk:Rk} {m:Nat}:Sil P false Φ.J (AtK1 P Φ) m g->WSit P Φ i ⟨6,rk,m,emp⟩ 0 g
 | d1 {g:Goroutine} {rk:Rk} {m:Nat}:Sil P false Φ.J (AtD1 P Φ) m g->WSit P Φ i ⟨5,rk,m,emp⟩ 1 g
 | d2 {g:Goroutine} {rk:Rk} {m:Nat}:Sil P false Φ.J (AtD2 P Φ) m g->WSit P Φ i ⟨4,rk,m,emp⟩ 1 g
 | d3 {g:Goroutine} {rk:Rk} {m:Nat}:Sil P false Φ.J (AtD3 P Φ) m g->WSit P Φ i ⟨3,rk,m,emp⟩ 1 g
 | d4 {g:Goroutine} {rk:Rk} {m:Nat}:Sil P false Φ.J (AtD4 P Φ) m g->WSit P Φ i ⟨2,rk,m,emp⟩ 1 g
 | quit {g:Goroutine} {rk:Rk} {m d:Nat}:QuitsD P m d g->WSit P Φ i ⟨1,rk,m,emp⟩ d g
variable {P:Program}{g:Goroutine}{w:World}
theorem Sil.status{main:Bool}{J:World->Prop}{Stop:Goroutine->World->Prop}{n:Nat}(hJ:J w)(hs:∀g w,Stop g w->g.status=.running)(H:Sil P main J Stop n g):g.status=.running:=by
 rcases H.cases with h | ⟨k,_,h,_⟩
 ·exact hs _ _ (h w hJ)
 ·exact h
theorem WSit.status{Φ:Ph}{i d:Nat}{x:WS}(hJ:Φ.J w)(H:WSit P Φ i x d g):g.status=.running\/(g.status=.finished/\x.stage=1):=by
 cases H with
 | put h=>exact .inl rfl
 | rel h=>exact .inl (h.status hJ fun _ _ h=>h.1)
 | dis h=>exact .inl (h.status hJ fun _ _ h=>h.1)
 | d1 h=>exact .inl (h.status hJ fun _ _ h=>h.1)
 | d2 h=>exact .inl (h.status hJ fun _ _ h=>h.1)
 | d3 h=>exact .inl (h.status hJ fun _ _ h=>h.1)
 | d4 h=>exact .inl (h.status hJ fun _ _ h=>h.1)
 | quit h=>exact h.status.imp id fun h=>⟨h,rfl⟩
def WS.lt(y x:WS):Prop:=Prod.Lex (· < ·) (Prod.Lex Rk.lt (· < ·)) (y.stage,y.rk,y.fuel) (x.stage,x.rk,x.fuel)
theorem WS.wf:WellFounded WS.lt:=InvImage.wf (fun x:WS=>(x.stage,x.rk,x.fuel)) (Prod.lex Nat.lt_wfRel (Prod.lex ⟨Rk.lt,Rk.wf⟩ Nat.lt_wfRel)).wf
theorem WS.wA{x y:WS}(h:y.stage<x.stage):WS.lt y x:=.left _ _ h
theorem WS.za1{x y:WS}(h:y.stage=x.stage)(hr:Rk.lt y.rk x.rk):WS.lt y x:=by
 obtain⟨s,r,f,hp⟩:=y;obtain⟨s',r',f',hp'⟩:=x;simp only at h hr;subst h;exact .right _ (.left _ _ hr)
theorem WS.Mq{x y:WS}(h:y.stage=x.stage)(hr:y.rk=x.rk)(hf:y.fuel<x.fuel):WS.lt y x:=by
 obtain⟨s,r,f,hp⟩:=y;obtain⟨s',r',f',hp'⟩:=x;simp only at h hr hf;subst h hr;exact .right _ (.right _ hf)
end Go.Eng
namespace Go.Eng
open Go Go.Conc Go.ConcN
open Go.ConcR (KK wgBlock WgAt stA smA rd wr mk g_of_ofEvents Bk DC0 bk_of_mute ofEvent_loc_mark ofEvent_cell ofEvent_mk deafBehind_cons deafBehind_one)
structure InPh(P:Program)(Φ:Ph)(N0 j:Nat)(h:Heap)(T:List WS)(gs:Array Goroutine)(w:World)(t:Trace):Prop where
 len:T.length=N0+j
 jn:j<=Φ.n
 gsz:gs.size=T.length+1
 sit:∀(k:Nat) (x:WS),T[k]? = some x->∃g,gs[k+1]? = some g/\WSit P Φ (k-N0) x (Deaf t (k+1)) g
 old:∀(k:Nat) (x:WS),T[k]? = some x->k<N0->x.stage=1
 CW:Φ.C≠Φ.Wg
 hno:h Φ.Wg=none/\h Φ.C=none
 xno:∀(k:Nat) (x:WS),T[k]? = some x->x.heap Φ.Wg=none/\x.heap Φ.C=none
 lt:Φ.Wg<w.heap.size/\Φ.C<w.heap.size
 pay:Φ.pay w
 quiet:∀(i:Nat) (a:Touch) (ad:Addr),touchAt t i=some a->a.loc=.cell ad->ad.block=Φ.Wg->(a.kind ≠ .plain/\(a.kind=.said->t.g? i=some 0))\/∀k,k=0\/(N0<k/\k<=N0+j)->Knows t k i
 cellF:∀(off i:Nat) (a:Touch),j<=off->touchAt t i=some a->a.loc=.cell ⟨Φ.C,off,none⟩->Knows t 0 i
 cellW:∀(k:Nat) (x:WS),T[k]? = some x->x.stage=8->∀(i:Nat) (a:Touch),touchAt t i=some a->a.loc=.cell ⟨Φ.C,k-N0,none⟩->Knows t (k+1) i
 cC:∀(i:Nat) (a:Touch) (ad:Addr),touchAt t i=some a->a.loc=.cell ad->ad.block=Φ.C->Knows t 0 i\/(a.kind=.plain/\∃k,N0<k/\t.g? i=some k)
 vals:∀(k:Nat) (x:WS),T[k]? = some x->N0<=k->x.stage<8->w.cell? ⟨Φ.C,k-N0,none⟩=some (Φ.val (k-N0))
 rel:∀(k:Nat) (x:WS),T[k]? = some x->N0<=k->x.stage<7->∃r,RelBy (stA Φ.Wg) t (k+1) r
variable {P:Program}{g g' o:Goroutine}{w':World}
theorem BO(h:o.status=.running\/o.status=.finished):woken P g g' w' o=o:=by
 unfold woken;split
 ·exact again_running _ h
 ·rfl
variable {b i k:Nat}
section
variable {Φ:Ph}{N0 j:Nat}{h h' : Heap}{T:List WS}{gs:Array Goroutine}{w0 w : World}{t:Trace}{es:Array Event}{sl:Option (Nat × Nat)}{st sm:Int}
theorem Com.at{S:Shared}(C:Com w0 S N0 h T w t)(d:Nat):Com w0 S N0 h T (w.at d) t:=
 ⟨C.env,C.has,C.inv,C.hasW,C.apart,C.apart2,C.nr,C.gsb,C.lo,C.norel,C.kn,C.knW,C.ho⟩
theorem InPh.at(I:InPh P Φ N0 j h T gs w t)(d:Nat):InPh P Φ N0 j h T gs (w.at d) t:=
 ⟨I.len,I.jn,I.gsz,I.sit,I.old,I.CW,I.hno,I.xno,I.lt,I.pay,I.quiet,I.cellF,I.cellW,I.cC,I.vals,I.rel⟩
theorem InPh.J(I:InPh P Φ N0 j h T gs w t)(hw:WgAt Φ.ty Φ.Wg w st sm):Φ.J w:=⟨⟨_,_,hw⟩,I.pay⟩
def kW(P:Program)(gs:Array Goroutine)(k:Nat)(g g':Goroutine)(w':World):Array Goroutine:=(gs.map (woken P g g' w')).setIfInBounds (k+1) g'
theorem P8(hk:gs[k+1]? = some g)(hs:stepG P false g w=.go g' w' es) :
  runT P (crowd gs w sl) (k+1)=(.next (crowd (kW P gs k g g' w') w' sl),MemOp.ofEvents (k+1) g.frame.fn g.frame.place es):=runT_crowd_go hk hs
theorem DF{g g' g0:Goroutine}(h0:gs[0]? = some g0):(kW P gs k g g' w')[0]? = some (woken P g g' w' g0):=by
 unfold kW;rw[get_map_set _ _ _ _ (by omega),h0];rfl
theorem HA(hk:gs[k+1]? = some g):(kW P gs k g g' w')[k+1]? = some g':=by
 unfold kW;exact get_map_set_same _ _ _ (uS.1 hk).1
theorem KY(hne:i≠k)(hi:gs[i+1]? = some o)(ho:o.status=.running\/o.status=.finished):(kW P gs k g g' w')[i+1]? = some o:=by
 unfold kW;rw[get_map_set _ _ _ _ (by omega),hi,pH,BO ho]
theorem UE(fn:FuncId)(pos:String)(es:Array Event)(hne:i≠k):Deaf (t++MemOp.ofEvents (k+1) fn pos es) (i+1)=Deaf t (i+1):=Deaf_other t (by omega) _ g_of_ofEvents
def zaW(Φ:Ph)(k N0:Nat)(isPut:Prop)(e:Event):Prop:=
 ∀b,(MemAct.ofEvent e).touch? = some b->∃ad,b.loc=.cell ad/\(ad.block=Φ.Wg->b.kind=.atomic)/\(ad.block=Φ.C->isPut/\ad=⟨Φ.C,k-N0,none⟩/\b.kind=.plain)
theorem InPh.step(I:InPh P Φ N0 j h T gs w t)(hJ:Φ.J w){k:Nat}{g g':Goroutine}{x y:WS}(hk:gs[k+1]? = some g)(hx:T[k]? = some x)(fn:FuncId)(pos:String){isPut:Prop}(hes:∀e∈es,zaW Φ k N0 isPut e)
  (hN:N0<=k\/∀e∈es,(MemAct.ofEvent e).touch? = none)(hy:WSit P Φ (k-N0) y (deafBehind (Deaf t (k+1)) es) g')(hold:k<N0->y.stage=1)(hyno:y.heap Φ.Wg=none/\y.heap Φ.C=none)
  (hput:isPut->x.stage=8)(h8:y.stage=8->x.stage=8)(hlt:w.heap.size<=w'.heap.size)(hpay:Φ.pay w')(zj:∀off,(off≠k-N0\/k<N0)->w'.cell? ⟨Φ.C,off,none⟩=w.cell? ⟨Φ.C,off,none⟩)
  (hval:N0<=k->y.stage<8->w'.cell? ⟨Φ.C,k-N0,none⟩=some (Φ.val (k-N0)))(hrel:N0<=k->y.stage<7->∃r,RelBy (stA Φ.Wg) (t++MemOp.ofEvents (k+1) fn pos es) (k+1) r) :
  InPh P Φ N0 j h (T.set k y) (kW P gs k g g' w') w' (t++MemOp.ofEvents (k+1) fn pos es):=by
 have hg:∀op∈MemOp.ofEvents (k+1) fn pos es,op.g=k+1:=g_of_ofEvents;have hkl:k<T.length:=(vS.1 hx).1;have evt:∀ {op:MemOp} {b:Touch},op∈MemOp.ofEvents (k+1) fn pos es->op.act.touch? = some b->N0<=k/\∃ad,b.loc=.cell ad/\(ad.block=Φ.Wg->b.kind=.atomic)/\(ad.block=Φ.C->isPut/\ad=⟨Φ.C,k-N0,none⟩/\b.kind=.plain):=fun hop hb=>by
  obtain⟨e,he,rfl⟩:=yK hop;refine⟨hN.resolve_right fun h=>?_,hes e he _ hb⟩;have:=h e he;simp only at hb;rw[this]at hb;cases hb
 refine⟨by rw[uR];exact I.len,I.jn,by rw[uR,<-I.gsz];simp[kW],?_,?_,I.CW,I.hno,?_,⟨by have:=I.lt;omega,by have:=I.lt;omega⟩,hpay,?_,?_,?_,?_,?_,?_⟩
 ·intro i z hz;rcases yH hz with⟨rfl,rfl⟩ | ⟨hi,hz⟩
  ·exact⟨g',HA hk,by rw[Deaf_own];exact hy⟩
  ·obtain⟨o,ho,hs⟩:=I.sit i z hz;exact⟨o,KY (pN hi) ho ((hs.status hJ).imp id fun h=>h.1),by rw[UE fn pos es (pN hi)];exact hs⟩
 ·intro i z hz hi;rcases yH hz with⟨rfl,rfl⟩ | ⟨_,hz⟩
  ·exact hold hi
  ·exact I.old i z hz hi
 ·intro i z hz;rcases yH hz with⟨rfl,rfl⟩ | ⟨_,hz⟩
  ·exact hyno
  ·exact I.xno i z hz
 ·intro i a ad ha hl hb;rcases yu ha with⟨hlt,h1⟩ | ⟨op,h1,h2,h3⟩
  ·rcases I.quiet i a ad h1 hl hb with⟨h4,h5⟩ | h4
   ·exact .inl ⟨h4,fun h=>by rw[g?_old hlt];exact h5 h⟩
   ·exact .inr fun k hk=>jh (h4 k hk)
  ·obtain⟨_,ad2,e1,e2,_⟩:=evt h1 h2;rw[hl]at e1;cases e1
   exact .inl ⟨by rw[e2 hb];simp,by rw[e2 hb];simp⟩
 ·intro off i a ho ha hl;rcases yu ha with⟨hlt,h1⟩ | ⟨op,h1,h2,h3⟩
  ·exact jh (I.cellF off i a ho h1 hl)
  ·obtain⟨hNk,ad2,e1,_,e2⟩:=evt h1 h2;rw[hl]at e1;cases e1
   have e3:=(e2 rfl).2.1;simp only[Addr.mk.injEq,pF,vW]at e3;have:=I.len;omega
 ·intro i z hz hz8 q a ha hl;rcases yu ha with⟨hlt,h1⟩ | ⟨op,h1,h2,h3⟩
  ·rcases yH hz with⟨rfl,rfl⟩ | ⟨_,hz⟩
   ·exact jh (I.cellW k x hx (h8 hz8) q a h1 hl)
   ·exact jh (I.cellW i z hz hz8 q a h1 hl)
  ·obtain⟨hNk,ad2,e1,_,e2⟩:=evt h1 h2;rw[hl]at e1;cases e1
   have e3:=(e2 rfl).2.1;simp only[Addr.mk.injEq,pF,vW]at e3;have hiN:N0<=i:=by
    rcases yH hz with⟨rfl,rfl⟩ | ⟨_,hz⟩
    ·exact hNk
    ·refine Nat.le_of_not_lt fun hlt=>?_
     have:=I.old i z hz hlt;omega
   obtain rfl:i=k:=by omega
   have:=knows_own h3;rwa[hg op h1]at this
 ·intro i a ad ha hl hb;rcases yu ha with⟨hlt,h1⟩ | ⟨op,h1,h2,h3⟩
  ·rcases I.cC i a ad h1 hl hb with h4 | ⟨h4,q,h5,h6⟩
   ·exact .inl (jh h4)
   ·exact .inr ⟨h4,q,h5,by rw[g?_old hlt];exact h6⟩
  ·obtain⟨hNk,ad2,e1,_,e2⟩:=evt h1 h2;rw[hl]at e1;cases e1
   exact .inr ⟨(e2 hb).2.2,k+1,by omega,by simp[Trace.g?,h3,hg op h1]⟩
 ·intro i z hz hi hs;rcases yH hz with⟨rfl,rfl⟩ | ⟨hne,hz⟩
  ·exact hval hi hs
  ·rw[zj _ (by omega)];exact I.vals i z hz hi hs
 ·intro i z hz hi hs;rcases yH hz with⟨rfl,rfl⟩ | ⟨hne,hz⟩
  ·exact hrel hi hs
  ·obtain⟨r,hr⟩:=I.rel i z hz hi hs;exact⟨r,hr.appOther hg (by omega)⟩
inductive Turn (P:Program) (g g':Goroutine) (a b:Nat) (st sm:Int):Int->Int->Prop
 | same:b=a\/(5<=a/\5<=b)->Turn P g g' a b st sm st sm
 | add {v wt:Nat}:wt<=1->a=5->st=(v+1)*KK+wt->b=(if v=0/\wt=1 then 4 else 1)->Turn P g g' a b st sm (v*KK+wt) 0
 | seen:a=4->b=3->Turn P g g' a b st sm st sm
 | nought:a=3->b=2->Turn P g g' a b st sm 0 0
 | gone:a=2->b=1->mayWake P g=true->g'.status ≠ .blocked/\g'.status ≠ .waiting->Turn P g g' a b st sm 0 1
structure Fits(a:Nat)(st sm:Int):Prop where
 five:a=5->∃v wt:Nat,wt<=1/\v<2147483647/\st=(v+1)*KK+wt/\sm=0
 mid:a=4\/a=3->st=1/\sm=0
 two:a=2->st=0/\sm=0
def P9(P:Program)(Φ:Ph)(N0 j:Nat)(h:Heap)(T:List WS)(gs:Array Goroutine)(w0 w:World)(t:Trace)(k:Nat)(g:Goroutine)(x:WS)(st sm:Int):Prop:=
 ∃g' w' es y st' sm',stepG P false g w=.go g' w' es/\WS.lt y x/\Com w0 Φ.S N0 h (T.set k y) w' (t++MemOp.ofEvents (k+1) g.frame.fn g.frame.place es) /\
  InPh P Φ N0 j h (T.set k y) (kW P gs k g g' w') w' (t++MemOp.ofEvents (k+1) g.frame.fn g.frame.place es)/\WgAt Φ.ty Φ.Wg w' st' sm'/\Turn P g g' x.stage y.stage st sm st' sm'
theorem KZ(ha:Aside b w w'){c off:Nat}(hc:c≠b):w'.cell? ⟨c,off,none⟩=w.cell? ⟨c,off,none⟩:=by
 simp only[World.cell?,ha.block c hc]
theorem qp(C:Com w0 Φ.S N0 h T w t)(I:InPh P Φ N0 j h T gs w t)(hw:WgAt Φ.ty Φ.Wg w st sm){x y:WS}(hk:gs[k+1]? = some g)(hx:T[k]? = some x)(hs:stepG P false g w=.go g' w' es){st' sm':Int}
  (hA:Aside Φ.Wg w w')(hw':WgAt Φ.ty Φ.Wg w' st' sm')(hbk:∀e∈es,Bk Φ.Wg e\/e=mk (.releaseMerge (stA Φ.Wg)))(hN:N0<=k\/∀e∈es,(MemAct.ofEvent e).touch? = none)
  (hy:WSit P Φ (k-N0) y (deafBehind (Deaf t (k+1)) es) g')(hxe:x.heap=emp)(hye:y.heap=emp)(hold:k<N0->y.stage=1)(h8:y.stage<8)(hx8:x.stage<8)
  (hrel:N0<=k->y.stage<7->∃r,RelBy (stA Φ.Wg) (t++MemOp.ofEvents (k+1) g.frame.fn g.frame.place es) (k+1) r)(hlt:WS.lt y x)(htn:Turn P g g' x.stage y.stage st sm st' sm') :
  P9 P Φ N0 j h T gs w0 w t k g x st sm:=by
 have hkl:k<T.length:=(vS.1 hx).1;have tch:∀e∈es,∀b,(MemAct.ofEvent e).touch? = some b->∃ad,b.loc=.cell ad/\ad.block=Φ.Wg/\b.kind=.atomic:=by
  intro e he b hb;rcases hbk e he with h1 | rfl
  ·rcases h1 with h1 | h1 | ⟨a,q,rfl,ha⟩
   ·rw[ofEvent_loc_mark h1]at hb;cases hb
   ·rw[ofEvent_loc_mark h1]at hb;cases hb
   ·rw[ofEvent_cell]at hb;simp only[MemAct.touch?,uY]at hb;subst hb;exact⟨a,rfl,ha,rfl⟩
  ·cases hb
 refine⟨g',w',es,y,st',sm',hs,hlt,?_,?_,hw',htn⟩
 ·refine C.other (g:=k+1) (by omega) g_of_ofEvents (uR ..) ?_ ⟨hA.os,hA.tape,hA.output⟩ hA.size ?_ ?_ ?_ ?_
  ·intro i z hz;rcases yH hz with⟨rfl,rfl⟩ | ⟨_,hz⟩
   ·exact⟨x,hx,fun b hb=>by rw[hye]at hb;exact absurd rfl hb⟩
   ·exact⟨z,hz,fun b _=>rfl⟩
  ·intro b hb;refine hA.block b fun e=>?_
   subst e;rcases hb with hb | ⟨i,z,hz,hb⟩
   ·exact hb I.hno.1
   ·exact hb (I.xno i z hz).1
  ·intro op hop b hb;obtain⟨e,he,rfl⟩:=yK hop;obtain⟨ad,h1,h2,h3⟩:=tch e he b hb;refine⟨ad,h1,by rw[h2];exact I.lt.1,by rw[h2];exact I.hno.1,fun i z hz=>by rw[h2];exact(I.xno i z hz).1,fun said i a ha hc=>?_⟩;have hNk:N0<=k:=hN.resolve_right fun h=>by have:=h e he;simp only at hb;rw[this]at hb;cases hb
   rcases I.quiet i a ad ha (hc.1.trans h1) h2 with⟨h4,_⟩ | h4
   ·rcases hc.2.2.2 with h5 | h5 | ⟨_,_,h5⟩
    ·exact absurd h5 h4
    ·rw[h3]at h5;cases h5
    ·rw[h3]at h5;cases h5
   ·exact h4 _ (.inr ⟨by omega,by have:=I.len;omega⟩)
  ·intro op hop a hr;obtain⟨e,he,rfl⟩:=yK hop;simp only at hr;rcases hbk e he with h1 | rfl
   ·rcases h1 with h1 | h1 | ⟨a,q,rfl,ha⟩
    ·rw[ofEvent_loc_mark h1]at hr;cases hr
    ·rw[ofEvent_loc_mark h1]at hr;cases hr
    ·rw[ofEvent_cell]at hr;cases hr
   ·cases hr
  ·rcases hN with h1 | h1
   ·exact .inr (.inl (by omega))
   ·refine .inr (.inr fun op hop=>?_);obtain⟨e,he,rfl⟩:=yK hop;exact h1 e he
 ·obtain⟨cs,hc1,hc2⟩:=I.pay;refine I.step (I.J hw) hk hx _ _ (isPut:=False) (fun e he b hb=>?_) hN hy hold (by rw[hye];exact⟨rfl,rfl⟩) False.elim (fun h=>by omega) (by rw[hA.size];exact uI _) ⟨cs,(hA.block _ I.CW).trans hc1,hc2⟩ (fun off _=>KZ hA I.CW)
   (fun hNk h=>by rw[KZ hA I.CW];exact I.vals k x hx hNk hx8) hrel
  obtain⟨ad,h1,h2,h3⟩:=tch e he b hb;exact⟨ad,h1,fun _=>h3,fun e=>absurd (e.symm.trans h2) I.CW⟩
theorem Nj(hb:w'.heap[b]? = w.heap[b]?)(off:Nat):w'.cell? ⟨b,off,none⟩=w.cell? ⟨b,off,none⟩:=by
 simp only[World.cell?,hb]
theorem Yo(C:Com w0 Φ.S N0 h T w t)(I:InPh P Φ N0 j h T gs w t)(hw:WgAt Φ.ty Φ.Wg w st sm){fr fr':Frame}{cs cs':List Frame}{x:WS}(hk:gs[k+1]? = some (gor fr cs))(hx:T[k]? = some x)(hs:stepG P false (gor fr cs) w=.go (gor fr' cs') w' es)
  (K:Kept Φ.S x.heap h' w w')(hes:∀e∈es,Ai Φ.S x.heap w w' e){rk:Rk}(hR:Mo P Φ.S false Φ.J (Ik P Φ (k-N0)) rk fr' cs' h')(hx8:x.stage=8)(hlt:Rk.lt rk x.rk)(hd:Deaf t (k+1)=0)(hN:N0<=k) :
  P9 P Φ N0 j h T gs w0 w t k (gor fr cs) x st sm:=by
 obtain⟨hxW,hxC⟩:=I.xno k x hx;have hW:=(K.old Φ.Wg I.lt.1 hxW);have hC:=(K.old Φ.C I.lt.2 hxC);have dz:deafBehind (Deaf t (k+1)) es=0:=by
  rw[hd];refine deafBehind_idle (fun e he=>?_) 0;rcases hes e he with⟨a,h1,_⟩ | ⟨m,hm,rfl⟩
  ·rw[h1];exact⟨by simp,by simp⟩
  ·cases m <;> simp[Quiet]at hm ⊢
 obtain⟨xs,hc1,hc2⟩:=I.pay;refine⟨gor fr' cs',w',es,⟨8,rk,x.fuel,h'⟩,st,sm,hs,WS.za1 hx8.symm hlt,C.worker hx hN K hes _ _ rfl,?_,hW.1.trans hw,.same (.inl hx8.symm)⟩;refine I.step (I.J hw) hk hx _ _ (isPut:=False) (fun e he b hb=>?_) (.inl hN) (by rw[dz];exact .put hR) (fun h=>by omega) ⟨hW.2,hC.2⟩ False.elim (fun _=>hx8) K.size ⟨xs,hC.1.trans hc1,hc2⟩ (fun off _=>Nj hC.1 off)
  (fun _ h=>by simp only at h;omega) (fun _ h=>by simp only at h;omega)
 have hop:({ g:=0,fn:=0,pos := "",act:=.ofEvent e }:MemOp)∈MemOp.ofEvents 0 0 "" #[e]:=by simp[MemOp.ofEvents]
 obtain⟨ad,h1,h2,h3,_,_⟩:=jD (S:=Φ.S) (h:=x.heap) (w:=w) (w':=w') (es:=#[e]) (fun e' he'=>by simp at he';rw[he'];exact hes e he) hop hb;refine⟨ad,h1,fun e1=>?_,fun e1=>?_⟩
 ·rw[e1]at h3;rcases h3 with h3 | h3
  ·exact absurd hxW h3
  ·have:=I.lt.1;omega
 ·rw[e1]at h3;rcases h3 with h3 | h3
  ·exact absurd hxC h3
  ·have:=I.lt.2;omega
theorem Yp(C:Com w0 Φ.S N0 h T w t)(I:InPh P Φ N0 j h T gs w t)(hw:WgAt Φ.ty Φ.Wg w st sm){x:WS}(hk:gs[k+1]? = some g)(hx:T[k]? = some x)
  (hs:stepG P false g w=.go g' (w.setCell ⟨Φ.C,k-N0,none⟩ (Φ.val (k-N0))) #[⟨.cell ⟨Φ.C,k-N0,none⟩,true,false⟩]){m:Nat}(hR:Sil P false Φ.J (AtR0 P Φ) m g')(hx8:x.stage=8)(hd:Deaf t (k+1)=0)(hN:N0<=k) :
  P9 P Φ N0 j h T gs w0 w t k g x st sm:=by
 have hkl:k<T.length:=(vS.1 hx).1;have hA:Aside Φ.C w (w.setCell ⟨Φ.C,k-N0,none⟩ (Φ.val (k-N0))):=aside_setCell w ⟨Φ.C,k-N0,none⟩ _;obtain⟨xs,hc1,hc2⟩:=I.pay;have hkn:k-N0<Φ.n:=by have:=I.len;have:=I.jn;omega
 have hrow:(w.setCell ⟨Φ.C,k-N0,none⟩ (Φ.val (k-N0))).heap[Φ.C]? = some (.cells (xs.setIfInBounds (k-N0) (Φ.val (k-N0))) Φ.ety):=by
  rw[setCell_eq_setRow w Φ.C (k-N0) xs Φ.ety (0,0) _ hc1,setRow_heap w Φ.C _ _ Φ.ety _ hc1]
 have tch:∀ {fn:FuncId} {pos:String} {op:MemOp} {b:Touch},op∈MemOp.ofEvents (k+1) fn pos #[⟨.cell ⟨Φ.C,k-N0,none⟩,true,false⟩]->op.act.touch? = some b->b=⟨.cell ⟨Φ.C,k-N0,none⟩,true,.plain⟩:=fun hop hb=>by
  obtain⟨e,he,rfl⟩:=yK hop;simp only[nE,uF]at he;subst he;simp only[ofEvent_cell,MemAct.touch?,uY]at hb;exact hb.symm
 refine⟨g',_,_,⟨7,x.rk,m,emp⟩,st,sm,hs,WS.wA (by rw[hx8];show 7<8;omega),?_,?_,(hA.block _ (pN I.CW)).trans hw,.same (.inr ⟨by omega,by show 5<=7;omega⟩)⟩
 ·refine C.other (g:=k+1) (by omega) g_of_ofEvents (uR ..) ?_ ⟨hA.os,hA.tape,hA.output⟩ hA.size ?_ ?_ ?_ (.inr (.inl (by omega)))
  ·intro i z hz;rcases yH hz with⟨rfl,rfl⟩ | ⟨_,hz⟩
   ·exact⟨x,hx,fun b hb=>absurd rfl hb⟩
   ·exact⟨z,hz,fun b _=>rfl⟩
  ·intro b hb;refine hA.block b fun e=>?_
   subst e;rcases hb with hb | ⟨i,z,hz,hb⟩
   ·exact hb I.hno.2
   ·exact hb (I.xno i z hz).2
  ·intro op hop b hb;have e:=tch hop hb;subst e;exact⟨_,rfl,I.lt.2,I.hno.2,fun i z hz=>(I.xno i z hz).2,fun said i a ha hc=>I.cellW k x hx hx8 i a ha hc.1⟩
  ·intro op hop a hr;obtain⟨e,he,rfl⟩:=yK hop;simp only[nE,uF]at he;subst he;simp[ofEvent_cell]at hr
 ·refine I.step (I.J hw) hk hx _ _ (isPut:=True) (fun e he b hb=>?_) (.inl hN) ?_ (fun h=>by omega) ⟨rfl,rfl⟩ (fun _=>hx8) (fun h=>by simp at h) (by rw[hA.size];exact uI _) ⟨_,hrow,by simp[hc2]⟩ (fun off ho=>?_) (fun _ _=>?_) (fun _ h=>by simp at h)
  ·simp only[nE,uF]at he;subst he;simp only[ofEvent_cell,MemAct.touch?,uY]at hb;subst hb;exact⟨_,rfl,fun e=>absurd e I.CW,fun _=>⟨trivial,rfl,rfl⟩⟩
  ·have e:deafBehind (Deaf t (k+1)) #[⟨.cell ⟨Φ.C,k-N0,none⟩,true,false⟩]=0:=by rw[hd];rfl
   rw[e];exact .rel hR
  ·simp only[World.cell?,hrow,hc1];rw[pX (by omega)]
  ·simp only[World.cell?,hrow];simp[hc2,hkn]
end
end Go.Eng
namespace Go.Eng
open Go Go.Conc Go.ConcN
open Go.ConcR (KK wgBlock WgAt stA smA rd wr mk g_of_ofEvents Bk DC0 bk_of_mute ofEvent_loc_mark ofEvent_cell ofEvent_mk deafBehind_cons deafBehind_one)
variable {d k:Nat}{g:Goroutine}
section
variable {P:Program}{Φ:Ph}{N0 j:Nat}{h h' : Heap}{T:List WS}{gs:Array Goroutine}{w0 w w' : World}{t:Trace}{es:Array Event}{sl:Option (Nat × Nat)}{st sm:Int}
theorem Fits.keep{a:Nat}(F:Fits a st sm):Fits a st sm:=F
theorem CQ(C:Com w0 Φ.S N0 h T w t)(I:InPh P Φ N0 j h T gs w t)(hw:WgAt Φ.ty Φ.Wg w st sm){g g':Goroutine}{x:WS}(hk:gs[k+1]? = some g)(hx:T[k]? = some x)(hs:stepG P false g w=.go g' w #[])
  (hxe:x.heap=emp)(hx8:x.stage<8){m:Nat}(hy:WSit P Φ (k-N0) ⟨x.stage,x.rk,m,emp⟩ (Deaf t (k+1)) g')(hm:m<x.fuel)(hN:N0<=k\/x.stage=1):P9 P Φ N0 j h T gs w0 w t k g x st sm:=by
 refine qp C I hw hk hx hs (y:=⟨x.stage,x.rk,m,emp⟩) (Aside.refl _ _) hw (fun e he=>by simp at he) (.inr fun e he=>by simp at he) hy hxe rfl (fun hlt=>I.old k x hx hlt) hx8 hx8 (fun hNk h7=>?_) (WS.Mq rfl rfl hm) (.same (.inl rfl));obtain⟨r,hr⟩:=I.rel k x hx hNk h7;exact⟨r,hr.book (Wg:=Φ.Wg) rfl _ _ (fun e he=>by simp at he) (fun j e he=>by simp at he)⟩
theorem Yq(hd:0<d)(a b:Addr):∀(j:Nat) (e:Event),(#[rd a,wr b]:Array Event)[j]? = some e->(MemAct.ofEvent e).touch? = none\/0<deafBehind d ((#[rd a,wr b]:Array Event).extract 0 j):=by
 intro j e he;refine .inr ?_;rcases j with _ | _ | j
 ·exact hd
 ·exact hd
 ·simp at he
theorem PC(hd:0<d)(e0:Event):∀(j:Nat) (e:Event),(#[e0]:Array Event)[j]? = some e->(MemAct.ofEvent e).touch? = none\/0<deafBehind d ((#[e0]:Array Event).extract 0 j):=by
 intro j e he;rcases j with _ | j
 ·exact .inr hd
 ·simp at he
theorem Wo(hd:0<d)(a:Addr):∀(j:Nat) (e:Event),(semEvents a)[j]? = some e->(MemAct.ofEvent e).touch? = none\/0<deafBehind d ((semEvents a).extract 0 j):=by
 intro j e he;refine .inr ?_;rcases j with _ | _ | _ | _ | j
 ·exact hd
 ·show 0<d+1;omega
 ·show 0<d+1;omega
 ·show 0<d+1;omega
 ·simp[semEvents]at he
theorem bk_sem{Wg:Nat}(a:Addr)(h:a.block=Wg):∀e∈semEvents a,Bk Wg e:=by
 intro e he;simp only[semEvents,nE,uM,uO,pM]at he;rcases he with rfl | rfl | rfl | rfl
 ·exact .inl rfl
 ·exact bk_cell _ _ h
 ·exact bk_cell _ _ h
 ·exact .inr (.inl rfl)
theorem Xg(C:Com w0 Φ.S N0 h T w t)(I:InPh P Φ N0 j h T gs w t)(hw:WgAt Φ.ty Φ.Wg w st sm){x:WS}(hk:gs[k+1]? = some g)(hx:T[k]? = some x)(hrun:g.status=.running)(F:Fits x.stage st sm) :
  P9 P Φ N0 j h T gs w0 w t k g x st sm:=by
 obtain⟨g1,hg1,hs⟩:=I.sit k x hx;obtain rfl:g1=g:=by rw[hk]at hg1;exact(pQ hg1).symm
 have hJ:=I.J hw;have young:x.stage≠1->N0<=k:=fun h=>Nat.le_of_not_lt fun hlt=>h (I.old k x hx hlt)
 generalize hd:Deaf t (k+1)=dd at hs;have hAst:∀v:Int,Aside Φ.Wg w (w.setCell (stA Φ.Wg) (.int .u64 v)):=fun v=>aside_setCell w (stA Φ.Wg) _
 have hAsm:∀v:Int,Aside Φ.Wg w (w.setCell (smA Φ.Wg) (.int .u32 v)):=fun v=>aside_setCell w (smA Φ.Wg) _
 cases hs with
 | @put fr cs rk f hp hR=>
  have hNk:=young (by simp);cases rk with
  | leaf=>
   obtain⟨g',h1,m,h2⟩:=hR w (C.hasW k _ hx) hJ;exact Yp C I hw hk hx h1 h2 rfl hd hNk
  | node f=>
   obtain⟨fr',cs',w',es,h',h1,h2,h3,h4⟩:=hR w (C.hasW k _ hx) hJ;exact Yo C I hw hk hx h1 h2 h3 h4 rfl ⟨f,w,rfl,rfl⟩ hd hNk
 | @rel _ rk m hR=>
  have hNk:=young (by simp);rcases hR.cases with hst | ⟨m',rfl,_,hst⟩
  ·obtain⟨_,g',h1,m',h2⟩:=hst w hJ;refine qp C I hw hk hx h1 (y:=⟨6,rk,m',emp⟩) (Aside.refl _ _) hw (fun e he=>?_) (.inl hNk) (by rw[hd];exact .dis h2) rfl rfl (fun h=>by omega) (by show 6<8;omega) (by show 7<8;omega) (fun _ _=>⟨_,RelBy.new hd _ _⟩) (WS.wA (by show 6<7;omega)) (.same (.inr ⟨by show 5<=7;omega,by show 5<=6;omega⟩));simp only[nE,uF]at he;exact .inr he
  ·obtain⟨g',h1,h2⟩:=hst w hJ;exact CQ C I hw hk hx h1 rfl (by show 7<8;omega) (by rw[hd];exact .rel h2) (mC _) (.inl hNk)
 | @dis _ rk m hR=>
  have hNk:=young (by simp);rcases hR.cases with hst | ⟨m',rfl,_,hst⟩
  ·obtain⟨_,g',h1,m',h2⟩:=hst w hJ;have hb:∀e∈(#[mk .disable]:Array Event),Bk Φ.Wg e:=fun e he=>by
    simp only[nE,uF]at he;exact .inl (by rw[he];rfl)
   refine qp C I hw hk hx h1 (y:=⟨5,rk,m',emp⟩) (Aside.refl _ _) hw (fun e he=>.inl (hb e he)) (.inl hNk) (by rw[hd];exact .d1 h2) rfl rfl (fun h=>by omega) (by show 5<8;omega) (by show 6<8;omega) (fun _ _=>?_) (WS.wA (by show 5<6;omega)) (.same (.inr ⟨by show 5<=6;omega,by show 5<=5;omega⟩));obtain⟨r,hr⟩:=I.rel k _ hx hNk (by show 6<7;omega);refine⟨r,hr.book hd _ _ hb fun j e he=>.inl ?_⟩;rcases j with _ | j
   ·simp at he;rw[<-he];rfl
   ·simp at he
  ·obtain⟨g',h1,h2⟩:=hst w hJ;exact CQ C I hw hk hx h1 rfl (by show 6<8;omega) (by rw[hd];exact .dis h2) (mC _) (.inl hNk)
 | @d1 _ rk m hR=>
  have hNk:=young (by simp);rcases hR.cases with hst | ⟨m',rfl,_,hst⟩
  ·obtain⟨v,wt,hwt,hv,rfl,rfl⟩:=F.five rfl;obtain⟨_,h0⟩:=hst w hJ;obtain⟨g',h1,h2,h3⟩:=h0 v wt hwt hv hw;have hb:∀e∈(#[rd (stA Φ.Wg),wr (stA Φ.Wg)]:Array Event),Bk Φ.Wg e:=fun e he=>by
    simp only[nE,uM,uO,pM]at he;rcases he with rfl | rfl <;> exact bk_cell _ _ rfl
   obtain⟨r,hr⟩:=I.rel k _ hx hNk (by show 5<7;omega);have hr':=hr.book hd g1.frame.fn g1.frame.place hb (Yq (by omega) _ _);by_cases hc:v=0/\wt=1
   ·obtain⟨m',h4⟩:=h2 hc;exact qp C I hw hk hx h1 (y:=⟨4,rk,m',emp⟩) (hAst _) (hw.setSt _) (fun e he=>.inl (hb e he)) (.inl hNk) (by rw[hd];exact .d2 h4) rfl rfl (fun h=>by omega) (by show 4<8;omega) (by show 5<8;omega) (fun _ _=>⟨r,hr'⟩) (WS.wA (by show 4<5;omega)) (.add hwt rfl rfl (by rw[vP hc]))
   ·obtain⟨m',h4⟩:=h3 hc;exact qp C I hw hk hx h1 (y:=⟨1,rk,m',emp⟩) (hAst _) (hw.setSt _) (fun e he=>.inl (hb e he)) (.inl hNk) (by rw[hd];exact .quit h4) rfl rfl (fun _=>rfl) (by show 1<8;omega) (by show 5<8;omega) (fun _ _=>⟨r,hr'⟩) (WS.wA (by show 1<5;omega)) (.add hwt rfl rfl (by rw[vM hc]))
  ·obtain⟨g',h1,h2⟩:=hst w hJ;exact CQ C I hw hk hx h1 rfl (by show 5<8;omega) (by rw[hd];exact .d1 h2) (mC _) (.inl hNk)
 | @d2 _ rk m hR=>
  have hNk:=young (by simp);rcases hR.cases with hst | ⟨m',rfl,_,hst⟩
  ·obtain⟨rfl,rfl⟩:=F.mid (.inl rfl);obtain⟨_,h0⟩:=hst w hJ;obtain⟨g',h1,m',h2⟩:=h0 hw;have hb:∀e∈(#[rd (stA Φ.Wg)]:Array Event),Bk Φ.Wg e:=fun e he=>by
    simp only[nE,uF]at he;subst he;exact bk_cell _ _ rfl
   obtain⟨r,hr⟩:=I.rel k _ hx hNk (by show 4<7;omega);exact qp C I hw hk hx h1 (y:=⟨3,rk,m',emp⟩) (Aside.refl _ _) hw (fun e he=>.inl (hb e he)) (.inl hNk) (by rw[hd];exact .d3 h2) rfl rfl (fun h=>by omega) (by show 3<8;omega) (by show 4<8;omega) (fun _ _=>⟨r,hr.book hd _ _ hb (PC (by omega) _)⟩) (WS.wA (by show 3<4;omega)) (.seen rfl rfl)
  ·obtain⟨g',h1,h2⟩:=hst w hJ;exact CQ C I hw hk hx h1 rfl (by show 4<8;omega) (by rw[hd];exact .d2 h2) (mC _) (.inl hNk)
 | @d3 _ rk m hR=>
  have hNk:=young (by simp);rcases hR.cases with hst | ⟨m',rfl,_,hst⟩
  ·obtain⟨rfl,rfl⟩:=F.mid (.inr rfl);obtain⟨_,h0⟩:=hst w hJ;obtain⟨g',h1,m',h2⟩:=h0 hw;have hb:∀e∈(#[wr (stA Φ.Wg)]:Array Event),Bk Φ.Wg e:=fun e he=>by
    simp only[nE,uF]at he;subst he;exact bk_cell _ _ rfl
   obtain⟨r,hr⟩:=I.rel k _ hx hNk (by show 3<7;omega);exact qp C I hw hk hx h1 (y:=⟨2,rk,m',emp⟩) (hAst _) (hw.setSt _) (fun e he=>.inl (hb e he)) (.inl hNk) (by rw[hd];exact .d4 h2) rfl rfl (fun h=>by omega) (by show 2<8;omega) (by show 3<8;omega) (fun _ _=>⟨r,hr.book hd _ _ hb (PC (by omega) _)⟩) (WS.wA (by show 2<3;omega)) (.nought rfl rfl)
  ·obtain⟨g',h1,h2⟩:=hst w hJ;exact CQ C I hw hk hx h1 rfl (by show 3<8;omega) (by rw[hd];exact .d3 h2) (mC _) (.inl hNk)
 | @d4 _ rk m hR=>
  have hNk:=young (by simp);rcases hR.cases with hst | ⟨m',rfl,_,hst⟩
  ·obtain⟨rfl,rfl⟩:=F.two rfl;obtain⟨_,hwk,h0⟩:=hst w hJ;obtain⟨g',h1,m',h2⟩:=h0 hw;have hb:=bk_sem (smA Φ.Wg) (Wg:=Φ.Wg) rfl;obtain⟨r,hr⟩:=I.rel k _ hx hNk (by show 2<7;omega);refine qp C I hw hk hx h1 (y:=⟨1,rk,m',emp⟩) (hAsm _) (hw.setSm _) (fun e he=>.inl (hb e he)) (.inl hNk) (by rw[hd];exact .quit h2) rfl rfl (fun _=>rfl) (by show 1<8;omega) (by show 2<8;omega) (fun _ _=>⟨r,hr.book hd _ _ hb (Wo (by omega) _)⟩) (WS.wA (by show 1<2;omega)) (.gone rfl rfl hwk ?_);rcases h2.status with h | h <;> rw[h] <;> exact⟨by simp,by simp⟩
  ·obtain⟨g',h1,h2⟩:=hst w hJ;exact CQ C I hw hk hx h1 rfl (by show 2<8;omega) (by rw[hd];exact .d4 h2) (mC _) (.inl hNk)
 | @quit _ rk m d hQ=>
  cases m with
  | zero=>rw[hQ.1]at hrun;cases hrun
  | succ m=>
   rcases hQ with⟨h1,_⟩ | ⟨_,g',es,hm,h1,h2⟩
   ·rw[h1]at hrun;cases hrun
   ·have ht:∀e∈es,(MemAct.ofEvent e).touch? = none:=fun e he=>by
     rcases bk_of_mute (Wg:=Φ.Wg) (hm e he)with h3 | h3 | ⟨a,q,h3,_⟩
     ·rw[ofEvent_loc_mark h3];rfl
     ·rw[ofEvent_loc_mark h3];rfl
     ·have:=hm e he;rw[h3]at this;simp[Event.mute]at this
    refine qp C I hw hk hx (h1 w) (y:=⟨1,rk,m,emp⟩) (Aside.refl _ _) hw (fun e he=>.inl (bk_of_mute (hm e he))) (.inr ht) (by rw[hd];exact .quit h2) rfl rfl (fun _=>rfl) (by show 1<8;omega) (by show 1<8;omega) (fun hNk _=>?_) (WS.Mq rfl rfl (mC _)) (.same (.inl rfl));obtain⟨r,hr⟩:=I.rel k _ hx hNk (by show 1<7;omega);exact⟨r,hr.book (Wg:=Φ.Wg) hd _ _ (fun e he=>bk_of_mute (hm e he)) fun j e he=>.inl (ht e (Array.mem_of_getElem? he))⟩
end
end Go.Eng
namespace Go.Eng
open Go Go.Conc Go.ConcN
open Go.ConcR (KK wgBlock WgAt stA smA rd wr mk g_of_ofEvents Bk DC0 bk_of_mute ofEvent_loc_mark ofEvent_cell ofEvent_mk deafBehind_cons deafBehind_one)
def V(T:List WS):Nat:=T.countP fun x=>decide (5<=x.stage)
def S0(T:List WS):Prop:=∀(k:Nat) (x:WS),T[k]? = some x->x.stage≠2/\x.stage≠3/\x.stage≠4
def c5(n:Nat):Nat:=if 5<=n then 1 else 0
variable {k:Nat}
theorem Xh{T:List WS}{x y:WS}(hx:T[k]? = some x):V (T.set k y)+c5 x.stage=V T+c5 y.stage:=by
 obtain⟨hlt,rfl⟩:=vS.1 hx;unfold V c5;rw[List.countP_set hlt];have hp:5<=T[k].stage->0<T.countP fun x=>decide (5<=x.stage):=fun h=>List.countP_pos_iff.2 ⟨T[k],uX hlt,by simpa using h⟩
 by_cases h1:5<=T[k].stage <;> by_cases h2:5<=y.stage <;> simp[h1,h2]
 ·have:=hp h1;omega
 ·have:=hp h1;omega
variable {N0 j:Nat}
theorem PD{T:List WS}(hl:T.length=N0+j)(ho:∀(k:Nat) (x:WS),T[k]? = some x->k<N0->x.stage=1):V T<=j:=by
 unfold V;rw[<-pZ N0 T,List.countP_append];have h0:(T.take N0).countP (fun x=>decide (5<=x.stage))=0:=by
  refine gI.2 fun x hx=>?_
  obtain⟨k,hk⟩:=nM hx;have hlt:k<N0:=by
   have:=(vS.1 hk).1;rw[pK]at this;omega
  rw[mK,vP hlt]at hk;simp[ho k x hk hlt]
 have h1:=List.countP_le_length (p:=fun x:WS=>decide (5<=x.stage)) (l:=T.drop N0);rw[pL]at h1;omega
theorem S1{T:List WS}{x:WS}(hx:T[k]? = some x)(h5:5<=x.stage):1<=V T:=
 List.countP_pos_iff.2 ⟨x,lI hx,by simpa using h5⟩
def Il(T:List WS)(pend:Nat)(st sm:Int):Prop:=st=((V T+pend:Nat):Int)*KK/\sm=0/\S0 T
theorem Il.fits{T:List WS}{pend n N0 j:Nat}{st sm:Int}(M:Il T pend st sm)(hl:T.length=N0+j)(ho:∀(k:Nat) (x:WS),T[k]? = some x->k<N0->x.stage=1)(hb:j+pend<=n)(hn:n<2147483648){x:WS}(hx:T[k]? = some x):Fits x.stage st sm:=by
 obtain⟨rfl,rfl,hm⟩:=M;have h3:=hm k x hx;refine⟨fun h=>?_,fun h=>by omega,fun h=>by omega⟩;have h1:=S1 hx (by omega);have h2:=PD hl ho;refine⟨V T+pend-1,0,by omega,by omega,?_,rfl⟩;simp only[KK];omega
variable {pend:Nat}{P:Program}
theorem Il.Av{T:List WS}{st sm st' sm':Int}(M:Il T pend st sm){x y:WS}(hx:T[k]? = some x){g g':Goroutine}(H:Turn P g g' x.stage y.stage st sm st' sm'):Il (T.set k y) pend st' sm':=by
 obtain⟨rfl,rfl,hm⟩:=M;have h3:=hm k x hx;have hv:=Xh (y:=y) hx;have nm:y.stage≠2/\y.stage≠3/\y.stage≠4->S0 (T.set k y):=fun h i z hz=>by
  rcases yH hz with⟨rfl,rfl⟩ | ⟨_,hz⟩
  ·exact h
  ·exact hm i z hz
 generalize ha:x.stage=a at *;generalize hb:y.stage=b at *;cases H with
 | same h=>
  have:V (T.set k y)=V T:=by
   rcases h with rfl | ⟨h1,h2⟩
   ·omega
   ·simp only[c5,vP h1,vP h2]at hv;omega
  exact⟨by rw[this],rfl,nm (by omega)⟩
 | @add v wt hwt h1 h2 h3'=>
  subst h1;simp only[KK]at h2;have hwt0:wt=0:=by omega
  subst hwt0;rw[vM (by omega)]at h3';subst h3';have hc:V (T.set k y)+1=V T:=by simpa[c5]using hv
  exact⟨by simp only[KK];omega,rfl,nm (by omega)⟩
 | seen h _=>omega
 | nought h _=>omega
 | gone h _ _ _=>omega
inductive Le:List WS->List WS->Prop
 | refl (T:List WS):Le T T
 | step {T' T1 T:List WS}:One WS.lt T' T1->Le T1 T->Le T' T
theorem Le.trans{A B C:List WS}(h:Le A B)(k:Le B C):Le A C:=by
 induction h with
 | refl=>exact k
 | step h1 _ ih=>exact .step h1 (ih k)
def Ju(P:Program)(Good:Machine->Outcome->World->Trace->Prop)(gs:Array Goroutine)(w:World)(sl:Option (Nat×Nat))(t:Trace):Prop:=
 (∃m' ops,runT P (crowd gs w sl) 0=(.next m',ops)/\Runs P Good m' (t++ops)) \/
 (∃o w1 ops,runT P (crowd gs w sl) 0=(.ended o w1,ops)/\∀w2 sl2,Good (crowd gs w2 sl2) o w1 (t++ops))
theorem Av{Good:Machine->Outcome->World->Trace->Prop}{I:List WS->Array Goroutine->World->Trace->Prop}{T0:List WS}
  (hat:∀T gs w t d,I T gs w t->I T gs (w.at d) t)(haw:∀T gs w t,I T gs w t->∀g∈gs,awake g)(hru:∀T gs w t,I T gs w t->∃(i:Nat) (g:Goroutine),gs[i]? = some g/\g.status=.running)
  (hW:∀T gs w t sl k g,I T gs w t->gs[k+1]? = some g->g.status=.running->∃T' gs' w' ops,runT P (crowd gs w sl) (k+1)=(.next (crowd gs' w' sl),ops)/\One WS.lt T' T/\I T' gs' w' (t++ops))
  (hM:∀T gs w t sl g,Le T T0->I T gs w t->gs[0]? = some g->g.status=.running->Ju P Good gs w sl t) :
  ∀T gs w t sl,Le T T0->I T gs w t->Runs P Good (crowd gs w sl) t:=by
 intro T;induction (One.wf WS.wf).apply T with
 | intro T _ ih=>
  intro gs w t sl hle hI;obtain⟨i,g,d,sl',hg,hrun,hstep⟩:=crowd_pick (P:=P) (w:=w) (sl:=sl) (haw _ _ _ _ hI) (hru _ _ _ _ hI);have hI':=hat _ _ _ _ d hI;cases i with
  | zero=>
   rcases hM T gs (w.at d) t sl' g hle hI' hg hrun with⟨m',ops,h1,h2⟩ | ⟨o,w1,ops,h1,h2⟩
   ·exact .step (hstep.trans h1) h2
   ·exact .fin (hstep.trans h1) (h2 w sl)
  | succ k=>
   obtain⟨T',gs',w',ops,h1,h2,h3⟩:=hW T gs (w.at d) t sl' k g hI' hg hrun;exact .step (hstep.trans h1) (ih T' h2 gs' w' (t++ops) sl' (.step h2 hle) h3)
end Go.Eng
namespace Go.Eng
open Go Go.Conc Go.ConcN
open Go.ConcR (KK wgBlock WgAt stA smA rd wr mk g_of_ofEvents Bk DC0 bk_of_mute ofEvent_loc_mark ofEvent_cell ofEvent_mk deafBehind_cons deafBehind_one)
structure Iop(P:Program)(Φ:Ph)(N0 j:Nat)(h:Heap)(w0:World)(M:List WS->Int->Int->Prop)(d0:Nat)(g0:Goroutine)(T:List WS)(gs:Array Goroutine)(w:World)(t:Trace):Prop where
 C:Com w0 Φ.S N0 h T w t
 I:InPh P Φ N0 j h T gs w t
 wg:∃st sm,WgAt Φ.ty Φ.Wg w st sm/\M T st sm
 g0:gs[0]? = some g0
 deaf:Deaf t 0=d0
def Bj(N0 j:Nat)(M:List WS->Int->Int->Prop):Prop:=
 ∀(T:List WS) (k:Nat) (x y:WS) (st sm:Int),T.length=N0+j->(∀(k:Nat) (x:WS),T[k]? = some x->1<=x.stage)->(∀(k:Nat) (x:WS),T[k]? = some x->k<N0->x.stage=1)->T[k]? = some x->M T st sm ->
  Fits x.stage st sm/\∀(P:Program) (g g':Goroutine) (st' sm':Int),Turn P g g' x.stage y.stage st sm st' sm'->M (T.set k y) st' sm'
def xN(P:Program)(gs:Array Goroutine)(g g':Goroutine)(w':World):Array Goroutine:=(gs.map (woken P g g' w')).setIfInBounds 0 g'
section
variable {P:Program}{Φ:Ph}{N0 j:Nat}{h h' : Heap}{T:List WS}{gs:Array Goroutine}{w0 w w' : World}{t:Trace}{es:Array Event}{sl:Option (Nat × Nat)}{st sm:Int}{M M' : List WS -> Int -> Int -> Prop}{d0:Nat}{g0 g1:Goroutine}
  {Good:Machine -> Outcome -> World -> Trace -> Prop}
theorem CR(h0:gs[0]? = some g0)(hs:stepG P true g0 w=.go g1 w' es):runT P (crowd gs w sl) 0=(.next (crowd (xN P gs g0 g1 w') w' sl),MemOp.ofEvents 0 g0.frame.fn g0.frame.place es):=runT_crowd_go h0 hs
theorem Cx(h0:gs[0]? = some g0):(xN P gs g0 g1 w')[0]? = some g1:=get_map_set_same _ _ _ (uS.1 h0).1
theorem Cy{i:Nat}{o:Goroutine}(hi:gs[i+1]? = some o)(ho:o.status=.running\/o.status=.finished):(xN P gs g0 g1 w')[i+1]? = some o:=by
 unfold xN;rw[get_map_set _ _ _ _ (by omega),hi,pH,BO ho]
theorem Iop.J(X:Iop P Φ N0 j h w0 M d0 g0 T gs w t):Φ.J w:=let⟨_,_,h,_⟩:=X.wg;X.I.J h
theorem Iop.at(X:Iop P Φ N0 j h w0 M d0 g0 T gs w t)(d:Nat):Iop P Φ N0 j h w0 M d0 g0 T gs (w.at d) t:=⟨X.C.at d,X.I.at d,X.wg,X.g0,X.deaf⟩
theorem Nk(I:InPh P Φ N0 j h T gs w t)(hJ:Φ.J w)(h0:gs[0]? = some g0)(hg:g0.status=.running\/g0.status=.finished\/g0.status=.blocked):∀g∈gs,awake g:=by
 intro g hg2 tm;obtain⟨i,hi⟩:=Array.mem_iff_getElem?.1 hg2;cases i with
 | zero=>
  rw[h0]at hi;cases hi
  rcases hg with h | h | h <;> rw[h] <;> simp
 | succ i=>
  have hlt:i<T.length:=by
   have:=(uS.1 hi).1;rw[I.gsz]at this;omega
  obtain⟨g',hg',hs⟩:=I.sit i _ (vO hlt);rw[hi]at hg';cases hg'
  rcases hs.status hJ with h | ⟨h,_⟩ <;> rw[h] <;> simp
theorem Iop.worker(X:Iop P Φ N0 j h w0 M d0 g0 T gs w t)(hn:Bj N0 j M)(hr:g0.status=.running){k:Nat}{g:Goroutine}(hk:gs[k+1]? = some g)(hrun:g.status=.running) :
  ∃T' gs' w' ops,runT P (crowd gs w sl) (k+1)=(.next (crowd gs' w' sl),ops)/\One WS.lt T' T/\Iop P Φ N0 j h w0 M d0 g0 T' gs' w' (t++ops):=by
 obtain⟨st,sm,hw,hM⟩:=X.wg;have hlt:k<T.length:=by
  have:=(uS.1 hk).1;rw[X.I.gsz]at this;omega
 have hx:=vO hlt;have hst:∀(k:Nat) (x:WS),T[k]? = some x->1<=x.stage:=fun k x hx=>by
  obtain⟨g,_,hs⟩:=X.I.sit k x hx;generalize Deaf t (k+1)=d at hs;cases hs <;> simp
 obtain⟨g',w',es,y,st',sm',h1,h2,h3,h4,h5,h6⟩:=Xg X.C X.I hw hk hx hrun (hn T k _ ⟨0,.leaf,0,emp⟩ st sm X.I.len hst X.I.old hx hM).1;refine⟨_,_,w',_,P8 hk h1,One.set hx h2,h3,h4,⟨st',sm',h5,(hn T k _ y st sm X.I.len hst X.I.old hx hM).2 _ _ _ _ _ h6⟩,?_,?_⟩
 ·rw[DF X.g0,BO (.inl hr)]
 ·rw[Deaf_other t (by omega) _ g_of_ofEvents];exact X.deaf
theorem InPh.first(I:InPh P Φ N0 j h T gs w t)(hJ:Φ.J w)(h0:gs[0]? = some g0)(fn:FuncId)(pos:String)(hes:∀e∈es,∀b,(MemAct.ofEvent e).touch? = some b->∃ad,b.loc=.cell ad/\(ad.block=Φ.Wg->b.kind ≠ .plain)/\ad.block≠Φ.C)
  (hlt:w.heap.size<=w'.heap.size)(hC:w'.heap[Φ.C]? = w.heap[Φ.C]?)(hno:h' Φ.Wg=none/\h' Φ.C=none):InPh P Φ N0 j h' T (xN P gs g0 g1 w') w' (t++MemOp.ofEvents 0 fn pos es):=by
 have hg:∀op∈MemOp.ofEvents 0 fn pos es,op.g=0:=g_of_ofEvents;have own:∀ {i:Nat} {op:MemOp},op∈MemOp.ofEvents 0 fn pos es->(t++MemOp.ofEvents 0 fn pos es)[i]? = some op->(t++MemOp.ofEvents 0 fn pos es).g? i=some 0:=fun h1 h2=>by simp[Trace.g?,h2,hg _ h1]
 have evt:∀ {op:MemOp} {b:Touch},op∈MemOp.ofEvents 0 fn pos es->op.act.touch? = some b->∃ad,b.loc=.cell ad/\(ad.block=Φ.Wg->b.kind ≠ .plain)/\ad.block≠Φ.C:=fun hop hb=>by
  obtain⟨e,he,rfl⟩:=yK hop;exact hes e he _ hb
 refine⟨I.len,I.jn,by rw[<-I.gsz];simp[xN],?_,I.old,I.CW,hno,I.xno,⟨by have:=I.lt;omega,by have:=I.lt;omega⟩,?_,?_,?_,?_,?_,?_,?_⟩
 ·intro i z hz;obtain⟨o,ho,hs⟩:=I.sit i z hz;exact⟨o,Cy ho ((hs.status hJ).imp id fun h=>h.1),by rw[Deaf_other t (by omega) _ hg];exact hs⟩
 ·obtain⟨cs,hc1,hc2⟩:=I.pay;exact⟨cs,hC.trans hc1,hc2⟩
 ·intro i a ad ha hl hb;rcases yu ha with⟨hlt,h1⟩ | ⟨op,h1,h2,h3⟩
  ·rcases I.quiet i a ad h1 hl hb with⟨h4,h5⟩ | h4
   ·exact .inl ⟨h4,fun h=>by rw[g?_old hlt];exact h5 h⟩
   ·exact .inr fun k hk=>jh (h4 k hk)
  ·obtain⟨ad2,e1,e2,_⟩:=evt h1 h2;rw[hl]at e1;cases e1
   exact .inl ⟨e2 hb,fun _=>own h1 h3⟩
 ·intro off i a ho ha hl;rcases yu ha with⟨hlt,h1⟩ | ⟨op,h1,h2,h3⟩
  ·exact jh (I.cellF off i a ho h1 hl)
  ·have:=knows_own h3;rwa[hg op h1]at this
 ·intro i z hz hz8 q a ha hl;rcases yu ha with⟨hlt,h1⟩ | ⟨op,h1,h2,h3⟩
  ·exact jh (I.cellW i z hz hz8 q a h1 hl)
  ·obtain⟨ad2,e1,_,e2⟩:=evt h1 h2;rw[hl]at e1;cases e1
   exact absurd rfl e2
 ·intro i a ad ha hl hb;rcases yu ha with⟨hlt,h1⟩ | ⟨op,h1,h2,h3⟩
  ·rcases I.cC i a ad h1 hl hb with h4 | ⟨h4,q,h5,h6⟩
   ·exact .inl (jh h4)
   ·exact .inr ⟨h4,q,h5,by rw[g?_old hlt];exact h6⟩
  ·have:=knows_own h3;rw[hg op h1]at this;exact .inl this
 ·intro i z hz hi hs;rw[Nj hC];exact I.vals i z hz hi hs
 ·intro i z hz hi hs;obtain⟨r,hr⟩:=I.rel i z hz hi hs;exact⟨r,hr.appOther hg (by omega)⟩
theorem Iop.book(X:Iop P Φ N0 j h w0 M d0 g0 T gs w t)(hA:Aside Φ.Wg w w')(hw':WgAt Φ.ty Φ.Wg w' st sm)(hM:M' T st sm)
  (hes:∀e∈es,Bk Φ.Wg e\/e=Go.ConcR.mk (.read (smA Φ.Wg))\/e=Go.ConcR.mk (.write (smA Φ.Wg))\/e=Go.ConcR.mk (.acquire (stA Φ.Wg)))(fn:FuncId)(pos:String) :
  Iop P Φ N0 j h w0 M' (deafBehind d0 es) g1 T (xN P gs g0 g1 w') w' (t++MemOp.ofEvents 0 fn pos es):=by
 have tch:∀e∈es,∀b,(MemAct.ofEvent e).touch? = some b->∃ad,b.loc=.cell ad/\ad.block=Φ.Wg/\b.kind ≠ .plain:=by
  intro e he b hb;rcases hes e he with h1 | rfl | rfl | rfl
  ·rcases h1 with h1 | h1 | ⟨a,q,rfl,ha⟩
   ·rw[ofEvent_loc_mark h1]at hb;cases hb
   ·rw[ofEvent_loc_mark h1]at hb;cases hb
   ·rw[ofEvent_cell]at hb;simp only[MemAct.touch?,uY]at hb;subst hb;exact⟨a,rfl,ha,by simp⟩
  ·simp only[ofEvent_mk,MemAct.touch?,uY]at hb;subst hb;exact⟨_,rfl,rfl,by simp⟩
  ·simp only[ofEvent_mk,MemAct.touch?,uY]at hb;subst hb;exact⟨_,rfl,rfl,by simp⟩
  ·cases hb
 have said_of:∀(x:Touch.Kind),x ≠ .plain->x=.atomic\/x=.said:=fun x hx=>by cases x <;> simp_all
 refine⟨?_,X.I.first X.J X.g0 fn pos (fun e he b hb=>?_) (by rw[hA.size];exact uI _) (hA.block _ X.I.CW) X.I.hno,⟨st,sm,hw',hM⟩,Cx X.g0,by rw[Deaf_own,X.deaf]⟩
 ·refine X.C.other (g:=0) (gO _) g_of_ofEvents rfl (fun i y hy=>⟨y,hy,fun b _=>rfl⟩) ⟨hA.os,hA.tape,hA.output⟩ hA.size (fun b hb=>?_) (fun op hop b hb=>?_) (fun op hop a hr=>?_) (.inl rfl)
  ·refine hA.block b fun e=>?_
   subst e;rcases hb with hb | ⟨i,z,hz,hb⟩
   ·exact hb X.I.hno.1
   ·exact hb (X.I.xno i z hz).1
  ·obtain⟨e,he,rfl⟩:=yK hop;obtain⟨ad,h1,h2,h3⟩:=tch e he b hb;refine⟨ad,h1,by rw[h2];exact X.I.lt.1,by rw[h2];exact X.I.hno.1,fun i z hz=>by rw[h2];exact(X.I.xno i z hz).1,fun said i a ha hc=>?_⟩;rcases X.I.quiet i a ad ha (hc.1.trans h1) h2 with⟨h4,h5⟩ | h4
   ·rcases hc.2.2.2 with h6 | h6 | ⟨_,h6,_⟩
    ·exact absurd h6 h4
    ·exact absurd h6 h3
    ·obtain⟨op,ho,_⟩:=touch_of ha;have:=knows_own ho;have e0:=h5 h6;simp only[Trace.g?,ho,pH,uY]at e0;rwa[e0]at this
   ·exact h4 0 (.inl rfl)
  ·obtain⟨e,he,rfl⟩:=yK hop;simp only at hr;rcases hes e he with h1 | rfl | rfl | rfl
   ·rcases h1 with h1 | h1 | ⟨a,q,rfl,ha⟩
    ·rw[ofEvent_loc_mark h1]at hr;cases hr
    ·rw[ofEvent_loc_mark h1]at hr;cases hr
    ·rw[ofEvent_cell]at hr;cases hr
   ·cases hr
   ·cases hr
   ·cases hr
 ·obtain⟨ad,h1,h2,h3⟩:=tch e he b hb;exact⟨ad,h1,fun _=>h3,fun e=>X.I.CW (e.symm.trans h2)⟩
theorem Iop.ym(X:Iop P Φ N0 j h w0 M d0 g0 T gs w t)(fn:FuncId)(pos:String):Iop P Φ N0 j h w0 M d0 g1 T (xN P gs g0 g1 w) w (t++MemOp.ofEvents 0 fn pos #[]):=by
 obtain⟨st,sm,hw,hM⟩:=X.wg;exact X.book (es:=#[]) (Aside.refl _ _) hw hM (fun e he=>by simp at he) fn pos
theorem Iop.S3(X:Iop P Φ N0 j h w0 M d0 g0 T gs w t)(K:Kept Φ.S h h' w w')(hes:∀e∈es,Ai Φ.S h w w' e)(fn:FuncId)(pos:String) :
  Iop P Φ N0 j h' w0 M d0 g1 T (xN P gs g0 g1 w') w' (t++MemOp.ofEvents 0 fn pos es):=by
 obtain⟨st,sm,hw,hM⟩:=X.wg;have hW:=K.old Φ.Wg X.I.lt.1 X.I.hno.1;have hC:=K.old Φ.C X.I.lt.2 X.I.hno.2;refine⟨X.C.main K hes fn pos,X.I.first X.J X.g0 fn pos (fun e he b hb=>?_) K.size hC.1 ⟨hW.2,hC.2⟩,⟨st,sm,hW.1.trans hw,hM⟩,Cx X.g0,?_⟩
 ·have hop:({ g:=0,fn:=0,pos := "",act:=.ofEvent e }:MemOp)∈MemOp.ofEvents 0 0 "" #[e]:=by simp[MemOp.ofEvents]
  obtain⟨ad,h1,h2,h3,_,_⟩:=jD (S:=Φ.S) (h:=h) (w:=w) (w':=w') (es:=#[e]) (fun e' he'=>by simp at he';rw[he'];exact hes e he) hop hb;refine⟨ad,h1,fun e1=>?_,fun e1=>?_⟩
  ·rw[e1]at h3;rcases h3 with h3 | h3
   ·exact absurd X.I.hno.1 h3
   ·have:=X.I.lt.1;omega
  ·rw[e1]at h3;rcases h3 with h3 | h3
   ·exact absurd X.I.hno.2 h3
   ·have:=X.I.lt.2;omega
 ·rw[Deaf_own,X.deaf];refine deafBehind_idle (fun e he=>?_) _;rcases hes e he with⟨a,h1,_⟩ | ⟨m,hm,rfl⟩
  ·rw[h1];exact⟨by simp,by simp⟩
  ·cases m <;> simp[Quiet]at hm ⊢
theorem Iop.Av(hn:Bj N0 j M)(hr:g0.status=.running)
  (hM:∀T' gs w t sl,Le T' T->Iop P Φ N0 j h w0 M d0 g0 T' gs w t->Ju P Good gs w sl t)(X:Iop P Φ N0 j h w0 M d0 g0 T gs w t)(sl:Option (Nat×Nat)):Runs P Good (crowd gs w sl) t:=
 Eng.Av (I:=fun T gs w t=>Iop P Φ N0 j h w0 M d0 g0 T gs w t) (T0:=T) (fun T gs w t d X=>X.at d) (fun T gs w t X=>Nk X.I X.J X.g0 (.inl hr)) (fun T gs w t X=>⟨0,g0,X.g0,hr⟩)
  (fun T gs w t sl k g X hk hg=>X.worker hn hr hk hg) (fun T' gs w t sl g hle X _ _=>hM T' gs w t sl hle X) T gs w t sl (.refl T) X
theorem Iop.sil(hn:Bj N0 j M){Stop:Goroutine->World->Prop}:∀(m:Nat) (g0:Goroutine) (T:List WS) (gs:Array Goroutine) (w:World) (t:Trace) (sl:Option (Nat×Nat)),Sil P true Φ.J Stop m g0->Iop P Φ N0 j h w0 M d0 g0 T gs w t ->
  (∀g' T' gs' w' t' sl',Le T' T->(∀w,Φ.J w->Stop g' w)->Iop P Φ N0 j h w0 M d0 g' T' gs' w' t'->Runs P Good (crowd gs' w' sl') t')->Runs P Good (crowd gs w sl) t:=by
 intro m;induction m with
 | zero=>
  intro g0 T gs w t sl H X K;rcases H.cases with h | ⟨k,h,_⟩
  ·exact K g0 T gs w t sl (.refl T) h X
  ·omega
 | succ m ih=>
  intro g0 T gs w t sl H X K;rcases H.cases with h | ⟨k,h,hr,hst⟩
  ·exact K g0 T gs w t sl (.refl T) h X
  ·obtain rfl:k=m:=by omega
   refine X.Av hn hr (fun T' gs w t sl hle X=>?_) sl;obtain⟨g',h1,h2⟩:=hst w X.J;exact .inl ⟨_,_,CR X.g0 h1,ih g' T' _ w _ sl h2 (X.ym _ _) fun g2 T2 gs2 w2 t2 sl2 hl=>K g2 T2 gs2 w2 t2 sl2 (hl.trans hle)⟩
theorem Iop.safe(hS:∀fr cs h Q,¬Φ.S.big fr cs h Q)(hn:Bj N0 j M){Post:Frame->List Frame->Heap->Prop}{fr:Frame}{cs:List Frame}(H:Safe P Φ.S Post fr cs h):∀(T:List WS) (gs:Array Goroutine) (w:World) (t:Trace) (sl:Option (Nat×Nat)),
  Iop P Φ N0 j h w0 M d0 (gor fr cs) T gs w t ->
  (∀fr' cs' h' T' gs' w' t' sl',Post fr' cs' h'->(∀b,Φ.S b->h' b=h b)->Iop P Φ N0 j h' w0 M d0 (gor fr' cs') T' gs' w' t'->Runs P Good (crowd gs' w' sl') t')->Runs P Good (crowd gs w sl) t:=by
 induction H with
 | done p=>exact fun T gs w t sl X K=>K _ _ _ T gs w t sl p (fun _ _=>rfl) X
 | step fr' cs' w' es h' hs _ ih=>
  intro T gs w t sl X K;refine X.Av hn rfl (fun T' gs w t sl _ X=>?_) sl;obtain⟨h1,h2,h3⟩:=hs w true X.C.has;exact .inl ⟨_,_,CR X.g0 h1,ih w true X.C.has T' _ _ _ sl (X.S3 h2 h3 _ _) fun fr2 cs2 h2' T2 gs2 w2 t2 sl2 p hro=>K fr2 cs2 h2' T2 gs2 w2 t2 sl2 p fun b hb=>(hro b hb).trans (h2.ro b hb)⟩
 | big h0 f Q e ha hb _ _=>exact absurd hb (hS _ _ _ _)
end
end Go.Eng
namespace Go.Eng
open Go Go.Conc Go.ConcN
open Go.ConcR (KK wgBlock WgAt stA smA rd wr mk g_of_ofEvents Bk DC0 bk_of_mute ofEvent_loc_mark ofEvent_cell ofEvent_mk deafBehind_cons deafBehind_one)
variable {S:Shared}{k n:Nat}
section
variable {P:Program}{Φ:Ph}{N0 j:Nat}{h h' h1 hc:Heap}{T:List WS}{gs:Array Goroutine}{w0 w w' : World}{t:Trace}{es:Array Event}{sl:Option (Nat × Nat)}{st sm:Int}{M M' : List WS -> Int -> Int -> Prop}{d0:Nat}{g0 g1:Goroutine}
  {Good:Machine -> Outcome -> World -> Trace -> Prop}
theorem jM{z y:WS}{i:Nat}(hi:(T++[z])[i]? = some y):T[i]? = some y\/(i=T.length/\y=z):=by
 rcases nS i T.length with hlt | hge
 ·rw[vZ hlt]at hi;exact .inl hi
 ·rw[uN hge]at hi;cases e:i-T.length with
  | zero=>rw[e]at hi;simp at hi;exact .inr ⟨by omega,hi.symm⟩
  | succ n=>rw[e]at hi;simp at hi
theorem Com.Im(C:Com w0 S N0 h T w t):Deaf t (T.length+1)=0:=Deaf_absent fun i op hi e=>by have:=C.gsb i op hi;omega
theorem HC{x y:MemOp}(hx:x.g=0/\x.act=.go k)(hy:y.g=k/\y.act=.start):∀op∈(#[x,y]:Array MemOp),op.act.touch? = none/\(∀m,op.act ≠ .mark m)/\(op.g=0\/op.g=k):=by
 intro op hop;simp only[nE,uM,uO,pM]at hop;rcases hop with rfl | rfl
 ·rw[hx.2];exact⟨rfl,fun m=>by simp,.inl hx.1⟩
 ·rw[hy.2];exact⟨rfl,fun m=>by simp,.inr hy.1⟩
theorem Com.spawn(C:Com w0 S N0 h T w t)(hN:N0<=T.length)(s1:Sub h1 h)(sc:Sub hc h)(hap:∀b,¬S b->hc b≠none->h1 b=none)(hS:∀b,S b->h1 b=h b){x y:MemOp}(hx:x.g=0/\x.act=.go (T.length+1))(hy:y.g=T.length+1/\y.act=.start)
  (h0:Deaf t 0=0){z:WS}(hz:z.heap=hc):Com w0 S N0 h1 (T++[z]) w (t++#[x,y]):=by
 have tw:=HC hx hy;have oldt:∀ {i:Nat} {a:Touch},touchAt (t++#[x,y]) i=some a->i<t.size/\touchAt t i=some a:=fun ha=>by
  rcases yu ha with h | ⟨op,h1,h2,_⟩
  ·exact h
  ·rw[(tw op h1).1]at h2;cases h2
 have hn1:∀ {b:Nat},h b=none->h1 b=none:=fun hb=>by
  cases e:h1 _ with
  | none=>rfl
  | some o=>rw[s1 _ o e]at hb;cases hb
 have hnc:∀ {b:Nat},h b=none->hc b=none:=fun hb=>by
  cases e:hc _ with
  | none=>rfl
  | some o=>rw[sc _ o e]at hb;cases hb
 refine⟨C.env,C.has.sub s1,fun b hb hn=>C.inv b hb (by rw[<-hS b hb];exact hn),?_,?_,?_,?_,?_,?_,?_,?_,?_,?_⟩
 ·intro i u hu;rcases jM hu with hu | ⟨_,rfl⟩
  ·exact C.hasW i u hu
  ·rw[hz];exact C.has.sub sc
 ·intro i u hu b hb hn;rcases jM hu with hu | ⟨_,rfl⟩
  ·exact hn1 (C.apart i u hu b hb hn)
  ·rw[hz]at hn;exact hap b hb hn
 ·intro i q u v hu hv hne b hb hn;rcases jM hu with hu' | ⟨rfl,rfl⟩
  ·rcases jM hv with hv | ⟨_,rfl⟩
   ·exact C.apart2 i q u v hu' hv hne b hb hn
   ·rw[hz];exact hnc (C.apart i u hu' b hb hn)
  ·rcases jM hv with hv | ⟨rfl,_⟩
   ·cases e:v.heap b with
    | none=>rfl
    | some o=>
     rw[hz]at hn;exact absurd (hnc (C.apart q v hv b hb (by rw[e];simp))) hn
   ·exact absurd rfl hne
 ·intro said;have e:t++#[x,y]=(t++#[x])++#[y]:=by apply Array.ext';simp
  rw[e];refine noRace_append (g:=T.length+1) (noRace_append (g:=0) (C.nr said) (fun op hop=>by simp at hop;rw[hop];exact hx.1) (fun i a _ op hop b hb _=>?_)) (fun op hop=>by simp at hop;rw[hop];exact hy.1) (fun i a _ op hop b hb _=>?_)
  ·rw[(tw op (by simp at hop ⊢;exact .inl hop)).1]at hb;cases hb
  ·rw[(tw op (by simp at hop ⊢;exact .inr hop)).1]at hb;cases hb
 ·refine Ij (fun i op hi=>?_) (fun op hop=>?_)
  ·rw[vY];have:=C.gsb i op hi;omega
  ·rw[vY];rcases(tw op hop).2.2 with e | e <;> rw[e] <;> simp
 ·intro i a ha;obtain⟨_,h⟩:=oldt ha;exact C.lo i a h
 ·exact Ej C.norel fun op hop a=>(tw op hop).2.1 _
 ·intro i a ad ha hl hb;obtain⟨hlt,h2⟩:=oldt ha;rcases C.kn i a ad h2 hl (fun e=>hb (hn1 e))with h4 | ⟨h4,h5,h6,q,h7,h8⟩
  ·exact .inl (jh h4)
  ·exact .inr ⟨h4,h5,h6,q,h7,by rw[g?_old hlt];exact h8⟩
 ·intro k u hu i a ad ha hl hb hcc;obtain⟨hlt,h2⟩:=oldt ha;rcases jM hu with hu | ⟨rfl,rfl⟩
  ·exact jh (C.knW k u hu i a ad h2 hl hb hcc)
  ·rw[hz]at hb;rcases C.kn i a ad h2 hl (fun e=>hb (hnc e))with h4 | ⟨h4,h5,_⟩
   ·exact fork_knows hx hy h0 C.Im h4
   ·rcases hcc with hcc | hcc
    ·exact absurd h4 hcc
    ·rw[h5]at hcc;cases hcc
 ·exact KW C.ho fun op hop=>.inr (.inr (tw op hop).1)
theorem InPh.spawn(I:InPh P Φ N0 j h T gs w t)(C:Com w0 Φ.S N0 h T w t)(s1:Sub h1 h)(sc:Sub hc h)(hj:j<Φ.n)(h0:gs[0]? = some g0){x y:MemOp}(hx:x.g=0/\x.act=.go (T.length+1))(hy:y.g=T.length+1/\y.act=.start)(hd:Deaf t 0=0)
  {fr:Frame}{cs:List Frame}{rk:Rk}(hR:Mo P Φ.S false Φ.J (Ik P Φ j) rk fr cs hc) :
  InPh P Φ N0 (j+1) h1 (T++[⟨8,rk,0,hc⟩]) ((gs.setIfInBounds 0 g1).push (gor fr cs)) w (t++#[x,y]):=by
 have tw:=HC hx hy;have hl:=I.len;have oldt:∀ {i:Nat} {a:Touch},touchAt (t++#[x,y]) i=some a->i<t.size/\touchAt t i=some a:=fun ha=>by
  rcases yu ha with h | ⟨op,h1,h2,_⟩
  ·exact h
  ·rw[(tw op h1).1]at h2;cases h2
 have still:∀g,Deaf (t++#[x,y]) g=Deaf t g:=fun g=>Deaf_still t g _ fun op hop=>⟨(tw op hop).2.1 _,(tw op hop).2.1 _⟩
 have hn1:∀ {b:Nat},h b=none->h1 b=none:=fun hb=>by
  cases e:h1 _ with
  | none=>rfl
  | some o=>rw[s1 _ o e]at hb;cases hb
 have hnc:∀ {b:Nat},h b=none->hc b=none:=fun hb=>by
  cases e:hc _ with
  | none=>rfl
  | some o=>rw[sc _ o e]at hb;cases hb
 have hgz:gs.size=T.length+1:=I.gsz;refine⟨by simp[hl];omega,by omega,by simp[hgz],?_,?_,I.CW,⟨hn1 I.hno.1,hn1 I.hno.2⟩,?_,I.lt,I.pay,?_,?_,?_,?_,?_,?_⟩
 ·intro k u hu;rcases jM hu with hu | ⟨rfl,rfl⟩
  ·obtain⟨o,ho,hs⟩:=I.sit k u hu;refine⟨o,?_,by rw[still];exact hs⟩;have hlt:=(uS.1 ho).1;rw[lU,vM (by rw[mQ];omega),pX (by omega)];exact ho
  ·refine⟨gor fr cs,?_,?_⟩
   ·rw[lU,vP (by rw[mQ];omega)]
   ·rw[still,C.Im,show T.length-N0=j by omega];exact .put hR
 ·intro k u hu hk;rcases jM hu with hu | ⟨rfl,_⟩
  ·exact I.old k u hu hk
  ·omega
 ·intro k u hu;rcases jM hu with hu | ⟨_,rfl⟩
  ·exact I.xno k u hu
  ·exact⟨hnc I.hno.1,hnc I.hno.2⟩
 ·intro i a ad ha hl2 hb;obtain⟨hlt,h2⟩:=oldt ha;rcases I.quiet i a ad h2 hl2 hb with⟨h3,h4⟩ | h3
  ·exact .inl ⟨h3,fun e=>by rw[g?_old hlt];exact h4 e⟩
  ·refine .inr fun k hk=>?_
   by_cases e:k=T.length+1
   ·subst e;exact fork_knows hx hy hd C.Im (h3 0 (.inl rfl))
   ·exact jh (h3 k (by omega))
 ·intro off i a ho ha hl2;obtain⟨_,h2⟩:=oldt ha;exact jh (I.cellF off i a (by omega) h2 hl2)
 ·intro k u hu h8 i a ha hl2;obtain⟨_,h2⟩:=oldt ha;rcases jM hu with hu | ⟨rfl,rfl⟩
  ·exact jh (I.cellW k u hu h8 i a h2 hl2)
  ·exact fork_knows hx hy hd C.Im (I.cellF (T.length-N0) i a (by omega) h2 hl2)
 ·intro i a ad ha hl2 hb;obtain⟨hlt,h2⟩:=oldt ha;rcases I.cC i a ad h2 hl2 hb with h3 | ⟨h3,q,h4,h5⟩
  ·exact .inl (jh h3)
  ·exact .inr ⟨h3,q,h4,by rw[g?_old hlt];exact h5⟩
 ·intro k u hu hk hs;rcases jM hu with hu | ⟨_,rfl⟩
  ·exact I.vals k u hu hk hs
  ·simp at hs
 ·intro k u hu hk hs;rcases jM hu with hu | ⟨_,rfl⟩
  ·obtain⟨r,hr⟩:=I.rel k u hu hk hs;have hku:=(vS.1 hu).1;refine⟨r,hr.appNot fun op hop=>?_⟩;rcases(tw op hop).2.2 with e | e <;> omega
  ·simp at hs
def MO(q:Prop)(pend:Nat)(T:List WS)(st sm:Int):Prop:=Il T pend st sm/\(q->∀(k:Nat) (x:WS),T[k]? = some x->x.stage=1)
theorem MO.shut{q:Prop}{pend n:Nat}(hb:j+pend<=n)(hn:n<2147483648):Bj N0 j (MO q pend):=by
 intro T k x y st sm hl hs ho hx ⟨H,hq⟩;refine⟨H.fits hl ho hb hn hx,fun P g g' st' sm' ht=>⟨H.Av hx ht,fun hqq i z hz=>?_⟩⟩;rcases yH hz with⟨rfl,rfl⟩ | ⟨_,hz⟩
 ·have h1:=hq hqq _ _ hx;have h2:=(H.Av hx ht).2.2;cases ht with
  | same h=>omega
  | add _ h _ _=>omega
  | seen h _=>omega
  | nought h _=>omega
  | gone h _ _ _=>omega
 ·exact hq hqq i z hz
def R1(T:List WS)(st sm:Int):Prop:=st=((V T:Nat):Int)*KK+1/\sm=0/\1<=V T/\S0 T
def R2(T:List WS)(st sm:Int):Prop:=∃(L:Nat) (x:WS),T[L]? = some x/\(x.stage=2\/x.stage=3\/x.stage=4)/\(∀(k:Nat) (y:WS),T[k]? = some y->k≠L->y.stage=1)/\st=(if x.stage=2 then 0 else 1)/\sm=0
def R3(T:List WS)(st sm:Int):Prop:=(∀(k:Nat) (x:WS),T[k]? = some x->x.stage=1)/\st=0/\sm=1
def MR(T:List WS)(st sm:Int):Prop:=R1 T st sm\/R2 T st sm\/R3 T st sm
theorem La(hjn:j<=n)(hn:n<2147483648){x y:WS}(hl:T.length=N0+j)(hs:∀(k:Nat) (x:WS),T[k]? = some x->1<=x.stage)(ho:∀(k:Nat) (x:WS),T[k]? = some x->k<N0->x.stage=1)(hx:T[k]? = some x)
  (H:R1 T st sm\/R2 T st sm):Fits x.stage st sm/\∀(P:Program) (g g':Goroutine) (st' sm':Int),Turn P g g' x.stage y.stage st sm st' sm' ->
   (R1 (T.set k y) st' sm'\/R2 (T.set k y) st' sm')\/(R3 (T.set k y) st' sm'/\mayWake P g=true/\g'.status ≠ .blocked/\g'.status ≠ .waiting):=by
 have setAll:∀ {Pr:WS->Prop},Pr y->(∀(i:Nat) (z:WS),i≠k->T[i]? = some z->Pr z)->∀(i:Nat) (z:WS),(T.set k y)[i]? = some z->Pr z:=fun hy h i z hz=>by
  rcases yH hz with⟨rfl,rfl⟩ | ⟨hne,hz⟩
  ·exact hy
  ·exact h i z (pN hne) hz
 have hv:=Xh (y:=y) hx;have hVj:=PD hl ho;have hkl:k<T.length:=(vS.1 hx).1;rcases H with⟨rfl,rfl,hV,hm⟩ | ⟨L,xl,hL,h234,hoth,rfl,rfl⟩
 ·have h3:=hm k x hx;refine⟨⟨fun h=>⟨V T-1,1,by omega,by omega,by simp only[KK];omega,rfl⟩,fun h=>by omega,fun h=>by omega⟩,fun P g g' st' sm' ht=>?_⟩;generalize ha:x.stage=a at *;generalize hb:y.stage=b at *;cases ht with
  | same h=>
   have e:V (T.set k y)=V T:=by
    rcases h with rfl | ⟨h1,h2⟩
    ·omega
    ·simp only[c5,vP h1,vP h2]at hv;omega
   exact .inl (.inl ⟨by rw[e],rfl,by omega,setAll (by omega) fun i z _ hz=>hm i z hz⟩)
  | @add v wt hwt h1 h2 h3'=>
   subst h1;simp only[KK]at h2;have hw1:wt=1:=by omega
   subst hw1;have hc:∀b',b=b'->b'<5->V (T.set k y)+1=V T:=fun b' e hlt=>by
    subst e;simp only[c5,vP (show 5<=5 by omega),vM (show ¬5<=b by omega)]at hv;omega
   by_cases hv0:v=0
   ·subst hv0;rw[vP ⟨rfl,rfl⟩]at h3';have hc':=hc 4 h3' (by omega);refine .inl (.inr ⟨k,y,pY hkl,.inr (.inr (by omega)),fun i z hz hik=>?_,by rw[vM (by omega)];simp[KK],rfl⟩);rcases yH hz with⟨rfl,_⟩ | ⟨_,hz⟩
    ·exact absurd rfl hik
    ·have hz1:=hs i z hz;have hz2:=hm i z hz;have hlt5:¬5<=z.stage:=fun h5=>by
      have:(T.set k y)[i]? = some z:=by rw[lN (pN hik)];exact hz
      have:=S1 this h5;omega
     omega
   ·rw[vM (fun h=>hv0 h.1)]at h3';have hc':=hc 1 h3' (by omega);exact .inl (.inl ⟨by simp only[KK];omega,rfl,by omega,setAll (by omega) fun i z _ hz=>hm i z hz⟩)
  | seen h _=>omega
  | nought h _=>omega
  | gone h _ _ _=>omega
 ·by_cases hk:k=L
  ·subst hk;rw[hx]at hL;cases hL
   refine⟨⟨fun h=>by omega,fun h=>⟨by rw[vM (by omega)],rfl⟩,fun h=>⟨by rw[vP h],rfl⟩⟩,fun P g g' st' sm' ht=>?_⟩;have mid:y.stage=2\/y.stage=3\/y.stage=4->∀s,s=(if y.stage=2 then(0:Int)else 1)->R2 (T.set k y) s 0:=fun h s hs2=>⟨k,y,pY hkl,h,fun i z hz hik=>by
    rcases yH hz with⟨rfl,_⟩ | ⟨_,hz⟩
    ·exact absurd rfl hik
    ·exact hoth i z hz hik,hs2,rfl⟩
   generalize ha:x.stage=a at *;generalize hb:y.stage=b at *;cases ht with
   | same h=>
    have e:b=a:=by omega
    subst e;exact .inl (.inr (by have:=mid (by omega) _ rfl;simpa using this))
   | add _ h _ _=>omega
   | seen h1 h2=>subst h1 h2;exact .inl (.inr (mid (by omega) _ rfl))
   | nought h1 h2=>subst h1 h2;exact .inl (.inr (mid (by omega) _ rfl))
   | gone h1 h2 h3 h4=>
    subst h1 h2;exact .inr ⟨⟨setAll hb fun i z hik hz=>hoth i z hz hik,rfl,rfl⟩,h3,h4⟩
  ·have h1:=hoth k x hx hk;refine⟨⟨fun h=>by omega,fun h=>by omega,fun h=>by omega⟩,fun P g g' st' sm' ht=>?_⟩;have hb1:y.stage=1/\st'=(if xl.stage=2 then(0:Int)else 1)/\sm'=0:=by
    generalize y.stage=b at *;generalize x.stage=a at *;generalize (if xl.stage=2 then(0:Int)else 1)=q at *;cases ht with
    | same h=>exact⟨by omega,rfl,rfl⟩
    | add _ h _ _=>omega
    | seen h _=>omega
    | nought h _=>omega
    | gone h _ _ _=>omega
   obtain⟨hb1,rfl,rfl⟩:=hb1;refine .inl (.inr ⟨L,xl,by rw[lN hk];exact hL,h234,fun i z hz hil=>?_,rfl,rfl⟩);rcases yH hz with⟨rfl,rfl⟩ | ⟨_,hz⟩
   ·exact hb1
   ·exact hoth i z hz hil
theorem R3.Av(H:R3 T st sm){x y:WS}(hx:T[k]? = some x):Fits x.stage st sm/\∀(P:Program) (g g':Goroutine) (st' sm':Int),Turn P g g' x.stage y.stage st sm st' sm'->R3 (T.set k y) st' sm':=by
 obtain⟨ha,rfl,rfl⟩:=H;have h1:=ha k x hx;refine⟨⟨fun h=>by omega,fun h=>by omega,fun h=>by omega⟩,fun P g g' st' sm' ht=>?_⟩;have hb1:y.stage=1/\st'=0/\sm'=1:=by
  generalize y.stage=b at *;generalize x.stage=a at *;cases ht with
  | same h=>exact⟨by omega,rfl,rfl⟩
  | add _ h _ _=>omega
  | seen h _=>omega
  | nought h _=>omega
  | gone h _ _ _=>omega
 obtain⟨hb1,rfl,rfl⟩:=hb1;refine⟨fun i z hz=>?_,rfl,rfl⟩;rcases yH hz with⟨rfl,rfl⟩ | ⟨_,hz⟩
 ·exact hb1
 ·exact ha i z hz
theorem MR.shut(hjn:j<=n)(hn:n<2147483648):Bj N0 j MR:=by
 intro T k x y st sm hl hs ho hx H;rcases H with H | H | H
 ·obtain⟨h1,h2⟩:=La (y:=y) hjn hn hl hs ho hx (.inl H);exact⟨h1,fun P g g' st' sm' ht=>(h2 P g g' st' sm' ht).elim (fun h=>h.elim .inl fun h=>.inr (.inl h)) fun h=>.inr (.inr h.1)⟩
 ·obtain⟨h1,h2⟩:=La (y:=y) hjn hn hl hs ho hx (.inr H);exact⟨h1,fun P g g' st' sm' ht=>(h2 P g g' st' sm' ht).elim (fun h=>h.elim .inl fun h=>.inr (.inl h)) fun h=>.inr (.inr h.1)⟩
 ·obtain⟨h1,h2⟩:=H.Av (y:=y) hx;exact⟨h1,fun P g g' st' sm' ht=>.inr (.inr (h2 P g g' st' sm' ht))⟩
end
end Go.Eng
namespace Go.Eng
open Go Go.Conc Go.ConcN
open Go.ConcR (KK wgBlock WgAt stA smA rd wr mk g_of_ofEvents Bk DC0 bk_of_mute ofEvent_loc_mark ofEvent_cell ofEvent_mk deafBehind_cons deafBehind_one again_blocked)
variable {fr:Frame}{cs:List Frame}
section
variable {P:Program}{Φ:Ph}{N0 j:Nat}{h h' h1 hc:Heap}{T:List WS}{gs:Array Goroutine}{w0 w w' : World}{t:Trace}{es:Array Event}{sl:Option (Nat × Nat)}{st sm:Int}{M M' : List WS -> Int -> Int -> Prop}{d0:Nat}{g0 g1:Goroutine}
  {Good:Machine -> Outcome -> World -> Trace -> Prop}
theorem FP{m:Mark}(h:m=.disable\/m=.enable\/m=.read (smA Φ.Wg)\/m=.write (smA Φ.Wg)\/m=.acquire (stA Φ.Wg)):∀e∈(#[mk m]:Array Event),Bk Φ.Wg e\/e=mk (.read (smA Φ.Wg))\/e=mk (.write (smA Φ.Wg))\/e=mk (.acquire (stA Φ.Wg)):=by
 intro e he;simp only[nE,uF]at he;subst he;rcases h with rfl | rfl | rfl | rfl | rfl
 ·exact .inl (.inl rfl)
 ·exact .inl (.inr (.inl rfl))
 ·exact .inr (.inl rfl)
 ·exact .inr (.inr (.inl rfl))
 ·exact .inr (.inr (.inr rfl))
theorem Xi:∀e∈(#[rd (stA Φ.Wg),wr (stA Φ.Wg)]:Array Event),Bk Φ.Wg e\/e=mk (.read (smA Φ.Wg))\/e=mk (.write (smA Φ.Wg))\/e=mk (.acquire (stA Φ.Wg)):=by
 intro e he;simp only[nE,uM,uO,pM]at he;rcases he with rfl | rfl <;> exact .inl (bk_cell _ _ rfl)
theorem Of:∀e∈(#[rd (stA Φ.Wg)]:Array Event),Bk Φ.Wg e\/e=mk (.read (smA Φ.Wg))\/e=mk (.write (smA Φ.Wg))\/e=mk (.acquire (stA Φ.Wg)):=by
 intro e he;simp only[nE,uF]at he;subst he;exact .inl (bk_cell _ _ rfl)
theorem sem_bk':∀e∈semEvents (smA Φ.Wg),Bk Φ.Wg e\/e=mk (.read (smA Φ.Wg))\/e=mk (.write (smA Φ.Wg))\/e=mk (.acquire (stA Φ.Wg)):=fun e he=>.inl (bk_sem (smA Φ.Wg) (Wg:=Φ.Wg) rfl e he)
theorem Iop.stop(X:Iop P Φ N0 j h w0 M d0 g0 T gs w t)(hn:Bj N0 j M)(hr:g0.status=.running)(sl:Option (Nat×Nat))
  (H:∀T' gs w t sl,Le T' T->Iop P Φ N0 j h w0 M d0 g0 T' gs w t->∃g1 w' es,stepG P true g0 w=.go g1 w' es/\Runs P Good (crowd (xN P gs g0 g1 w') w' sl) (t++MemOp.ofEvents 0 g0.frame.fn g0.frame.place es)):Runs P Good (crowd gs w sl) t:=by
 refine X.Av hn hr (fun T' gs w t sl hle X=>?_) sl;obtain⟨g1,w',es,h1,h2⟩:=H T' gs w t sl hle X;exact .inl ⟨_,_,CR X.g0 h1,h2⟩
theorem Zy{Nx:Frame->List Frame->Prop}(hj:j+1<=Φ.n)(hn:Φ.n<2147483648)(H:Bi P Φ Nx fr cs)(X:Iop P Φ N0 j h w0 (MO False 0) 0 (gor fr cs) T gs w t)(sl:Option (Nat×Nat))
  (K:∀fr' cs' T' gs' w' t' sl',Nx fr' cs'->Iop P Φ N0 j h w0 (MO False 1) 0 (gor fr' cs') T' gs' w' t'->Runs P Good (crowd gs' w' sl') t'):Runs P Good (crowd gs w sl) t:=by
 have s0:Bj N0 j (MO False 0):=MO.shut (n:=Φ.n) (by omega) hn;have s1:Bj N0 j (MO False 1):=MO.shut (n:=Φ.n) hj hn;obtain⟨m,H⟩:=H;refine Iop.sil s0 m _ T gs w t sl H X fun ga T gs w t sl _ hst X=>?_
 refine X.stop s0 (hst w X.J).1 sl fun T gs w t sl _ X=>?_
 obtain⟨_,gb,h1,m,h2⟩:=hst w X.J;obtain⟨st,sm,hw,hM⟩:=X.wg;refine⟨gb,w,_,h1,Iop.sil s0 m gb T _ _ _ sl h2 (X.book (Aside.refl _ _) hw hM (FP (.inl rfl)) _ _) fun gc T gs w t sl _ hst X=>?_⟩;refine X.stop s0 (hst w X.J).1 sl fun T gs w t sl _ X=>?_
 obtain⟨_,h0⟩:=hst w X.J;obtain⟨st,sm,hw,⟨rfl,rfl,hm⟩,hq⟩:=X.wg;have hVj:=PD X.I.len X.I.old;obtain⟨gd,h1,h2,h3⟩:=h0 (V T) (by omega) (by simpa using hw);have hA:Aside Φ.Wg w (w.setCell (stA Φ.Wg) (Value.int .u64 ((((V T:Nat):Int)+1)*KK))):=aside_setCell w (stA Φ.Wg) _;have X2:=X.book (g1:=gd) (M':=MO False 1) hA (hw.setSt _) ⟨⟨by simp only[KK];omega,rfl,hm⟩,hq⟩ Xi gc.frame.fn gc.frame.place;have enab:∀ {g T gs w t sl m},Sil P true Φ.J (H7 P Φ Nx) m g->Iop P Φ N0 j h w0 (MO False 1) 1 g T gs w t->Runs P Good (crowd gs w sl) t:=by
  intro g T gs w t sl m h2 X;refine Iop.sil s1 m g T gs w t sl h2 X fun ge T gs w t sl _ hst X=>?_
  refine X.stop s1 (hst w X.J).1 sl fun T gs w t sl _ X=>?_
  obtain⟨_,gf,h1,m,h2⟩:=hst w X.J;obtain⟨st,sm,hw,hM⟩:=X.wg;refine⟨gf,w,_,h1,Iop.sil s1 m gf T _ _ _ sl h2 (X.book (Aside.refl _ _) hw hM (FP (.inr (.inl rfl))) _ _) fun gg T gs w t sl _ hst X=>?_⟩;obtain⟨fr',cs',rfl,hx⟩:=hst w X.J;exact K fr' cs' T gs w t sl hx X
 refine⟨gd,_,_,h1,?_⟩;by_cases hv:V T=0
 ·obtain⟨m,h4⟩:=h2 hv;refine Iop.sil s1 m gd T _ _ _ sl h4 X2 fun ge T gs w t sl _ hst X=>?_
  refine X.stop s1 (hst w X.J).1 sl fun T gs w t sl _ X=>?_
  obtain⟨_,gf,h1,m,h2⟩:=hst w X.J;obtain⟨st,sm,hw,hM⟩:=X.wg;exact⟨gf,w,_,h1,enab h2 (X.book (Aside.refl _ _) hw hM (FP (.inr (.inr (.inl rfl)))) _ _)⟩
 ·obtain⟨m,h4⟩:=h3 hv;exact enab h4 X2
theorem Wp{Nx:Frame->List Frame->Heap->Prop}(hj:j+1<=Φ.n)(hn:Φ.n<2147483648)(H:CP P Φ j Nx fr cs h)(X:Iop P Φ N0 j h w0 (MO False 1) 0 (gor fr cs) T gs w t)(sl:Option (Nat×Nat))
  (K:∀fr' cs' h' T' gs' w' t' sl',Nx fr' cs' h'->(∀b,Φ.S b->h' b=h b)->Iop P Φ N0 (j+1) h' w0 (MO False 0) 0 (gor fr' cs') T' gs' w' t'->Runs P Good (crowd gs' w' sl') t'):Runs P Good (crowd gs w sl) t:=by
 have s1:Bj N0 j (MO False 1):=MO.shut (n:=Φ.n) hj hn;obtain⟨h1,hc,su1,suc,hap,hS,H⟩:=H;refine X.Av s1 rfl (fun T gs w t sl _ X=>.inl ?_) sl;obtain⟨fr',cs',frc,csc,hs,⟨rk,hR⟩,hN⟩:=H w X.C.has X.J;refine⟨_,_,runT_crowd_spawn X.g0 hs,K fr' cs' h1 (T++[⟨8,rk,0,hc⟩]) _ _ _ sl hN hS ?_⟩;have hsz:gs.size=T.length+1:=X.I.gsz;obtain⟨st,sm,hw,⟨⟨rfl,rfl,hm⟩,_⟩⟩:=X.wg;have e:∀(a b:MemOp),t++(((MemOp.ofEvents 0 (gor fr cs).frame.fn (gor fr cs).frame.place #[]).push a).push b)=t++#[a,b]:=fun a b=>by
  apply Array.ext';simp[MemOp.ofEvents]
 rw[e,hsz];refine⟨X.C.spawn (by have:=X.I.len;omega) su1 suc hap hS ⟨rfl,rfl⟩ ⟨rfl,rfl⟩ X.deaf rfl,X.I.spawn X.C su1 suc (by omega) X.g0 ⟨rfl,rfl⟩ ⟨rfl,rfl⟩ X.deaf hR,⟨_,_,hw,⟨⟨?_,rfl,?_⟩,False.elim⟩⟩,?_,?_⟩
 ·have:V (T++[(⟨8,rk,0,hc⟩:WS)])=V T+1:=by
   unfold V;rw[List.countP_append];simp
  rw[this]
 ·intro k x hx;rcases jM hx with hx | ⟨_,rfl⟩
  ·exact hm k x hx
  ·exact⟨by simp,by simp,by simp⟩
 ·rw[lU,vM (by rw[mQ];omega)];have hlt:=(uS.1 X.g0).1;simp[hlt]
 ·rw[Deaf_still t 0 _ fun op hop=>?_]
  ·exact X.deaf
  ·have:=(HC (k:=T.length+1) (x:={ g:=0,fn:=(gor fr cs).frame.fn,pos:=(gor fr cs).frame.place,act:=.go (T.length+1) }) (y:={ g:=T.length+1,fn:=(gor frc csc).frame.fn,pos:=(gor fr cs).frame.place,act:=.start }) ⟨rfl,rfl⟩ ⟨rfl,rfl⟩ op hop).2.1;exact⟨this _,this _⟩
theorem Nl(I:InPh P Φ N0 j h T gs w t)(hJ:Φ.J w)(h0:gs[0]? = some g0)(hg:g0.status=.running\/g0.status=.blocked):∀g∈gs,awake g:=Nk I hJ h0 (hg.elim .inl fun h=>.inr (.inr h))
theorem Zz{Nx:Frame->List Frame->Prop}{g3:Goroutine}(hjn:j<=Φ.n)(hn:Φ.n<2147483648)(hst:∀w,Φ.J w->AtW3 P Φ Nx g3 w)
  (K:∀g' T' gs' w' t' sl' m,Sil P true Φ.J (AtW4 P Φ Nx) m g'->Iop P Φ N0 j h w0 (MO True 0) 1 g' T' gs' w' t'->Runs P Good (crowd gs' w' sl') t') :
  ∀T gs w t sl g0,((g0=g3/\Iop P Φ N0 j h w0 MR 1 g0 T gs w t)\/(g0={ g3 with status:=.blocked }/\Iop P Φ N0 j h w0 (fun T st sm=>R1 T st sm\/R2 T st sm) 1 g0 T gs w t))->Runs P Good (crowd gs w sl) t:=by
 intro T;induction (One.wf WS.wf).apply T with
 | intro T _ ih=>
  have other:∀gs w t sl g0 k g,((g0=g3/\Iop P Φ N0 j h w0 MR 1 g0 T gs w t)\/(g0={ g3 with status:=.blocked }/\Iop P Φ N0 j h w0 (fun T st sm=>R1 T st sm\/R2 T st sm) 1 g0 T gs w t))->gs[k+1]? = some g->g.status=.running ->
    ∃m' ops,runT P (crowd gs w sl) (k+1)=(.next m',ops)/\Runs P Good m' (t++ops):=by
   intro gs w t sl g0 k g H hk hrun;rcases H with⟨rfl,X⟩ | ⟨rfl,X⟩
   ·obtain⟨T',gs',w',ops,h1,h2,h3⟩:=X.worker (sl:=sl) (MR.shut hjn hn) (hst w X.J).1 hk hrun;exact⟨_,ops,h1,ih T' h2 gs' w' _ sl g0 (.inl ⟨rfl,h3⟩)⟩
   ·obtain⟨hr3,ho3,_⟩:=hst w X.J;obtain⟨st,sm,hw,hM⟩:=X.wg;have hlt:k<T.length:=by
     have:=(uS.1 hk).1;rw[X.I.gsz]at this;omega
    have hx:=vO hlt;have hs1:∀(k:Nat) (x:WS),T[k]? = some x->1<=x.stage:=fun k x hx=>by
     obtain⟨g,_,hs⟩:=X.I.sit k x hx;generalize Deaf t (k+1)=d at hs;cases hs <;> simp
    obtain⟨g',w',es,y,st',sm',e1,e2,e3,e4,e5,e6⟩:=Xg X.C X.I hw hk hx hrun (La (y:=⟨0,.leaf,0,emp⟩) hjn hn X.I.len hs1 X.I.old hx hM).1;have hR:=(La (y:=y) hjn hn X.I.len hs1 X.I.old hx hM).2 _ _ _ _ _ e6;have hdf:Deaf (t++MemOp.ofEvents (k+1) g.frame.fn g.frame.place es) 0=1:=by
     rw[Deaf_other t (by omega) _ g_of_ofEvents];exact X.deaf
    have hz:=DF (P:=P) (k:=k) (g:=g) (g':=g') (w':=w') X.g0;have hwk:woken P g g' w' ({ g3 with status:=.blocked }:Goroutine)=g3\/woken P g g' w' ({ g3 with status:=.blocked }:Goroutine)={ g3 with status:=.blocked }:=by
     unfold woken;split
     ·exact .inl (again_blocked hr3 ho3 w')
     ·exact .inr rfl
    refine⟨_,_,P8 hk e1,ih _ (One.set hx e2) _ _ _ sl (woken P g g' w' ({ g3 with status:=.blocked }:Goroutine)) ?_⟩;rcases hR with hR | ⟨hR,m1,m2,m3⟩
    ·rcases hwk with e | e
     ·exact .inl ⟨e,e3,e4,⟨st',sm',e5,hR.elim .inl fun h=>.inr (.inl h)⟩,by rw[e];rw[e]at hz;exact hz,hdf⟩
     ·exact .inr ⟨e,e3,e4,⟨st',sm',e5,hR⟩,by rw[e];rw[e]at hz;exact hz,hdf⟩
    ·have e:woken P g g' w' ({ g3 with status:=.blocked }:Goroutine)=g3:=by
      unfold woken;rw[vP (by simp[m1,m2,m3])];exact again_blocked hr3 ho3 w'
     exact .inl ⟨e,e3,e4,⟨st',sm',e5,.inr (.inr hR)⟩,by rw[e];rw[e]at hz;exact hz,hdf⟩
  have blk:∀gs w t sl,Iop P Φ N0 j h w0 (fun T st sm=>R1 T st sm\/R2 T st sm) 1 { g3 with status:=.blocked } T gs w t->Runs P Good (crowd gs w sl) t:=by
   intro gs w t sl X;have hrun:∃(i:Nat) (g:Goroutine),gs[i]? = some g/\g.status=.running:=by
    obtain⟨st,sm,hw,hM⟩:=X.wg;have up:∀ {k:Nat} {x:WS},T[k]? = some x->x.stage≠1->∃(i:Nat) (g:Goroutine),gs[i]? = some g/\g.status=.running:=fun hx h1=>by
     obtain⟨g,hg,hs⟩:=X.I.sit _ _ hx;exact⟨_,g,hg,(hs.status X.J).resolve_right fun h=>h1 h.2⟩
    rcases hM with⟨_,_,hV,_⟩ | ⟨L,x,hx,h234,_⟩
    ·obtain⟨x,hx,h5⟩:=List.countP_pos_iff.1 hV;obtain⟨k,hk⟩:=nM hx;exact up hk (by simp at h5;omega)
    ·exact up hx (by omega)
   obtain⟨i,g,d,sl',hg,hr,hstep⟩:=crowd_pick (P:=P) (w:=w) (sl:=sl) (Nl X.I X.J X.g0 (.inr rfl)) hrun;cases i with
   | zero=>rw[X.g0]at hg;cases hg;cases hr
   | succ k=>
    obtain⟨m',ops,e1,e2⟩:=other gs (w.at d) t sl' _ k g (.inr ⟨rfl,X.at d⟩) hg hr;exact .step (hstep.trans e1) e2
  intro gs w t sl g0 H;rcases H with⟨rfl,X⟩ | ⟨rfl,X⟩
  ·obtain⟨i,g,d,sl',hg,hr,hstep⟩:=crowd_pick (P:=P) (w:=w) (sl:=sl) (Nl X.I X.J X.g0 (.inl (hst w X.J).1)) ⟨0,_,X.g0,(hst w X.J).1⟩;cases i with
   | zero=>
    have X':=X.at d;obtain⟨st,sm,hw,hM⟩:=X'.wg;obtain⟨_,_,hb,hg2⟩:=hst (w.at d) X'.J;have fin:R1 T st sm\/R2 T st sm->Runs P Good (crowd gs w sl) t:=fun hR=>by
     have hs0:sm=0:=by
      rcases hR with⟨_,h,_⟩ | ⟨_,_,_,_,_,_,h⟩ <;> exact h
     subst hs0;refine .step (hstep.trans (CR X.g0 (hb ⟨st,hw⟩))) (blk _ _ _ sl' ?_);exact X'.book (M':=fun T st sm=>R1 T st sm\/R2 T st sm) (es:=#[]) (Aside.refl _ _) hw hR (fun e he=>by simp at he) _ _
    rcases hM with hM | hM | ⟨hall,rfl,rfl⟩
    ·exact fin (.inl hM)
    ·exact fin (.inr hM)
    ·obtain⟨g',e1,m,e2⟩:=hg2 hw;refine .step (hstep.trans (CR X.g0 e1)) (K g' T _ _ _ sl' m e2 ?_);have hV0:V T=0:=by
      unfold V;refine gI.2 fun x hx=>?_
      obtain⟨k,hk⟩:=nM hx;simp[hall k x hk]
     have hA:Aside Φ.Wg (w.at d) ((w.at d).setCell (smA Φ.Wg) (Value.int .u32 0)):=aside_setCell _ (smA Φ.Wg) _;exact X'.book (M':=MO True 0) hA (hw.setSm _) ⟨⟨by rw[hV0];simp[KK],rfl,fun k x hx=>by have:=hall k x hx;omega⟩,fun _=>hall⟩ sem_bk' _ _
   | succ k=>
    obtain⟨m',ops,e1,e2⟩:=other gs (w.at d) t sl' _ k g (.inl ⟨rfl,X.at d⟩) hg hr;exact .step (hstep.trans e1) e2
  ·exact blk gs w t sl X
theorem Yr{Nx:Frame->List Frame->Prop}(hjn:j<=Φ.n)(hn:Φ.n<2147483648)(H:kV P Φ Nx fr cs)(X:Iop P Φ N0 j h w0 (MO False 0) 0 (gor fr cs) T gs w t)(sl:Option (Nat×Nat))
  (K:∀g' T' gs' w' t' sl',(∀w,Φ.J w->Jt P Φ Nx g' w)->Iop P Φ N0 j h w0 (MO True 0) 0 g' T' gs' w' t'->Runs P Good (crowd gs' w' sl') t'):Runs P Good (crowd gs w sl) t:=by
 have s0:Bj N0 j (MO False 0):=MO.shut (n:=Φ.n) (by omega) hn;have s1:Bj N0 j (MO True 0):=MO.shut (n:=Φ.n) (by omega) hn;have sr:Bj N0 j MR:=MR.shut hjn hn;obtain⟨Anch,hAn,m,H⟩:=H;have enab:∀ {g T gs w t sl m},Sil P true Φ.J (H9 P Φ Nx) m g->Iop P Φ N0 j h w0 (MO True 0) 1 g T gs w t->Runs P Good (crowd gs w sl) t:=by
  intro g T gs w t sl m h2 X;refine Iop.sil s1 m g T gs w t sl h2 X fun ge T gs w t sl _ hst X=>?_
  refine X.stop s1 (hst w X.J).1 sl fun T gs w t sl _ X=>?_
  obtain⟨_,gf,h1,m,h2⟩:=hst w X.J;obtain⟨st,sm,hw,hM⟩:=X.wg;exact⟨gf,w,_,h1,Iop.sil s1 m gf T _ _ _ sl h2 (X.book (Aside.refl _ _) hw hM (FP (.inr (.inl rfl))) _ _) fun gg T gs w t sl _ hst X=>K gg T gs w t sl hst X⟩
 have loop:∀T gs w t sl m g0,Sil P true Φ.J (fun g _=>Anch g) m g0->Iop P Φ N0 j h w0 (MO False 0) 1 g0 T gs w t->Runs P Good (crowd gs w sl) t:=by
  intro T;induction (One.wf WS.wf).transGen.apply T with
  | intro T _ ih=>
   intro gs w t sl m g0 H X;refine Iop.sil s0 m g0 T gs w t sl H X fun g1 T1 gs w t sl l1 hst X=>?_
   obtain⟨m,H⟩:=hAn g1 (hst w X.J);refine Iop.sil s0 m g1 T1 gs w t sl H X fun g2 T2 gs w t sl l2 hst X=>?_
   refine X.stop s0 (hst w X.J).1 sl fun T3 gs w t sl l3 X=>?_
   obtain⟨_,h0⟩:=hst w X.J;obtain⟨st,sm,hw,⟨⟨rfl,rfl,hm⟩,hq⟩⟩:=X.wg;have hVj:=PD X.I.len X.I.old;obtain⟨g3,h1,h2,h3⟩:=h0 (V T3) (by omega) (by simpa using hw);refine⟨g3,w,_,h1,?_⟩;by_cases hv:V T3=0
   ·obtain⟨m,h4⟩:=h2 hv;refine enab h4 (X.book (M':=MO True 0) (Aside.refl _ _) hw ⟨⟨rfl,rfl,hm⟩,fun _ k x hx=>?_⟩ Of _ _);have e1:=hm k x hx;have e2:¬5<=x.stage:=fun h5=>by have:=S1 hx h5;omega
    obtain⟨g,_,hs⟩:=X.I.sit k x hx;generalize Deaf t (k+1)=d at hs;cases hs <;> simp at e1 e2 ⊢
   ·obtain⟨m,h4⟩:=h3 hv;refine Iop.sil s0 m g3 T3 _ _ _ sl h4 (X.book (M':=MO False 0) (Aside.refl _ _) hw ⟨⟨rfl,rfl,hm⟩,hq⟩ Of _ _) fun g4 T4 gs w t sl l4 hst X=>?_
    refine X.stop s0 (hst w X.J).1 sl fun T5 gs w t sl l5 X=>?_
    obtain⟨_,h0⟩:=hst w X.J;obtain⟨st,sm,hw,⟨⟨rfl,rfl,hm⟩,hq⟩⟩:=X.wg;have hVj:=PD X.I.len X.I.old;obtain⟨h5,h6⟩:=h0 (V T5) (by omega) (by simpa using hw);by_cases hvv:V T5=V T3
    ·obtain⟨g5,e1,m,e2⟩:=h5 hvv;have hA:Aside Φ.Wg w (w.setCell (stA Φ.Wg) (Value.int .u64 (((V T5:Nat):Int)*KK+1))):=aside_setCell w (stA Φ.Wg) _;refine⟨g5,_,_,e1,Iop.sil sr m g5 T5 _ _ _ sl e2 (X.book (M':=MR) hA (hw.setSt _) (.inl ⟨rfl,rfl,by omega,hm⟩) Xi _ _) fun g6 T6 gs w t sl l6 hst X=>?_⟩;refine X.stop sr (hst w X.J).1 sl fun T7 gs w t sl l7 X=>?_
     obtain⟨_,g7,e1,m,e2⟩:=hst w X.J;obtain⟨st,sm,hw,hM⟩:=X.wg;refine⟨g7,w,_,e1,Iop.sil sr m g7 T7 _ _ _ sl e2 (X.book (Aside.refl _ _) hw hM (FP (.inr (.inr (.inr (.inl rfl))))) _ _) fun g8 T8 gs w t sl l8 hst X=>?_⟩;refine Zz hjn hn hst (fun g9 T9 gs w t sl m hs X=>?_) T8 gs w t sl g8 (.inl ⟨rfl,X⟩);refine Iop.sil s1 m g9 T9 _ _ _ sl hs X fun g10 T10 gs w t sl _ hst X=>?_
     refine X.stop s1 (hst w X.J).1 sl fun T11 gs w t sl _ X=>?_
     obtain⟨_,h0⟩:=hst w X.J;obtain⟨st,sm,hw,hM⟩:=X.wg;obtain⟨⟨rfl,rfl,hm⟩,hall⟩:=hM;have hV0:V T11=0:=by
      unfold V;refine gI.2 fun x hx=>?_
      obtain⟨k,hk⟩:=nM hx;simp[hall trivial k x hk]
     obtain⟨g11,e1,m,e2⟩:=h0 (by simpa[hV0]using hw);exact⟨g11,w,_,e1,enab e2 (X.book (M':=MO True 0) (Aside.refl _ _) hw ⟨⟨rfl,rfl,hm⟩,hall⟩ Of _ _)⟩
    ·obtain⟨g5,e1,m,e2⟩:=h6 hvv;have up:∀ {A B:List WS},Le A B->A=B\/Relation.TransGen (One WS.lt) A B:=fun h=>by
      induction h with
      | refl=>exact .inl rfl
      | step h1 _ ih=>exact .inr (ih.elim (fun e=>e ▸ .single h1) fun h2=>.trans (.single h1) h2)
     have hlt:Relation.TransGen (One WS.lt) T5 T:=by
      rcases up (l5.trans l4)with e | e
      ·exact absurd (by rw[e]) hvv
      ·rcases up (l3.trans (l2.trans l1))with e2 | e2
       ·exact e2▸e
       ·exact .trans e e2
     exact⟨g5,w,_,e1,ih T5 hlt _ _ _ sl m g5 e2 (X.book (M':=MO False 0) (Aside.refl _ _) hw ⟨⟨rfl,rfl,hm⟩,hq⟩ Of _ _)⟩
 refine Iop.sil s0 m _ T gs w t sl H X fun ga T gs w t sl _ hst X=>?_
 refine X.stop s0 (hst w X.J).1 sl fun T gs w t sl _ X=>?_
 obtain⟨_,gb,h1,m,h2⟩:=hst w X.J;obtain⟨st,sm,hw,hM⟩:=X.wg;exact⟨gb,w,_,h1,loop T _ _ _ sl m gb h2 (X.book (Aside.refl _ _) hw hM (FP (.inl rfl)) _ _)⟩
theorem za2(hS:∀fr cs h Q,¬Φ.S.big fr cs h Q)(hn:Φ.n<2147483648){Q:Frame->List Frame->Heap->Prop} :
  ∀(r j:Nat) (fr:Frame) (cs:List Frame) (h:Heap) (T:List WS) (gs:Array Goroutine) (w:World) (t:Trace) (sl:Option (Nat×Nat)),r+j=Φ.n->Sp P Φ Q r fr cs h->Iop P Φ N0 j h w0 (MO False 0) 0 (gor fr cs) T gs w t ->
   (∀h' g' T' gs' w' t' sl',(∀b,Φ.S b->h' b=h b)->(∀w,Φ.J w->Jt P Φ (fun fr' cs'=>Q fr' cs' h') g' w)->Iop P Φ N0 Φ.n h' w0 (MO True 0) 0 g' T' gs' w' t'->Runs P Good (crowd gs' w' sl') t')->Runs P Good (crowd gs w sl) t:=by
 intro r;induction r with
 | zero=>
  intro j fr cs h T gs w t sl hr H X K;obtain rfl:j=Φ.n:=by omega
  refine Iop.safe hS (MO.shut (n:=Φ.n) (by omega) hn) H T gs w t sl X fun fr' cs' h' T' gs' w' t' sl' hW hro X=>?_
  exact Yr (uI _) hn hW X sl' fun g' T2 gs2 w2 t2 sl2 hst X=>K h' g' T2 gs2 w2 t2 sl2 hro hst X
 | succ r ih=>
  intro j fr cs h T gs w t sl hr H X K;have hjj:Φ.n-(r+1)=j:=by omega
  refine Iop.safe hS (MO.shut (n:=Φ.n) (by omega) hn) H T gs w t sl X fun fr1 cs1 ha T1 gs1 w1 t1 sl1 hA hro1 X=>?_
  refine Zy (by omega) hn hA X sl1 fun fr2 cs2 T2 gs2 w2 t2 sl2 hN X=>?_
  refine Iop.safe hS (MO.shut (n:=Φ.n) (by omega) hn) hN T2 gs2 w2 t2 sl2 X fun fr3 cs3 hb T3 gs3 w3 t3 sl3 hB hro2 X=>?_
  rw[hjj]at hB;refine Wp (by omega) hn hB X sl3 fun fr4 cs4 hd T4 gs4 w4 t4 sl4 hC hro3 X=>?_
  exact ih (j+1) fr4 cs4 hd T4 gs4 w4 t4 sl4 (by omega) hC X fun h' g' T' gs' w' t' sl' hro=>K h' g' T' gs' w' t' sl' fun b hb'=>by rw[hro b hb',hro3 b hb',hro2 b hb',hro1 b hb']
end
end Go.Eng
namespace Go.Eng
open Go Go.Conc
open Go.ConcN hiding upd upd_same upd_ne
open Go.ConcR (KK wgBlock WgAt stA smA rd wr mk g_of_ofEvents Bk DC0 bk_of_mute ofEvent_loc_mark ofEvent_cell ofEvent_mk deafBehind_cons deafBehind_one)
variable {g:Goroutine}{fr:Frame}{cs:List Frame}{P:Program}
section
variable {Φ:Ph}{main:Bool}{J:World -> Prop}{Nx Nx' : Frame -> List Frame -> Prop}
theorem Sil.mono{Stop Stop':Goroutine->World->Prop}(hS:∀g w,Stop g w->Stop' g w):∀ {n:Nat} {g:Goroutine},Sil P main J Stop n g->Sil P main J Stop' n g:=by
 intro n;induction n with
 | zero=>exact fun H w w₁ hw=>hS _ _ (H w w₁ hw)
 | succ n ih=>
  intro g H w;rcases H w with h | ⟨hs,h⟩
  ·exact .inl fun w₁ hw=>hS _ _ (h w₁ hw)
  ·refine .inr ⟨hs,fun w₁ hw=>?_⟩;have:=h w₁ hw;revert this;cases stepG P main g w₁ <;> simp only[GStep.goes,imp_self]
   exact fun⟨d,x⟩=>⟨d,ih (Sil.of x) _⟩
theorem ks{Stop Stop':Goroutine->World->Prop}(hS:∀g w,Stop g w->Stop' g w):(∃m,Sil P main J Stop m g)->∃m,Sil P main J Stop' m g:=fun⟨m,h⟩=>⟨m,h.mono hS⟩
variable (hN:∀ fr cs, Nx fr cs -> Nx' fr cs)
include hN
theorem Py.mono(g:Goroutine)(w:World):Py Nx g w->Py Nx' g w:=fun⟨fr,cs,e,h⟩=>⟨fr,cs,e,hN _ _ h⟩
theorem H7.mono(g:Goroutine)(w:World):H7 P Φ Nx g w->H7 P Φ Nx' g w:=fun⟨h1,g',h2,h3⟩=>⟨h1,g',h2,ks (Py.mono hN) h3⟩
theorem Pz.mono(g:Goroutine)(w:World):Pz P Φ Nx g w->Pz P Φ Nx' g w:=fun⟨h1,g',h2,h3⟩=>⟨h1,g',h2,ks (H7.mono hN) h3⟩
theorem AtA1.mono(g:Goroutine)(w:World):AtA1 P Φ Nx g w->AtA1 P Φ Nx' g w:=fun⟨h1,h2⟩=>⟨h1,fun v hv hw=>let⟨g',h3,h4,h5⟩:=h2 v hv hw;⟨g',h3,fun e=>ks (Pz.mono hN) (h4 e),fun e=>ks (H7.mono hN) (h5 e)⟩⟩
theorem Mp.mono(g:Goroutine)(w:World):Mp P Φ Nx g w->Mp P Φ Nx' g w:=fun⟨h1,g',h2,h3⟩=>⟨h1,g',h2,ks (AtA1.mono hN) h3⟩
theorem Bi.mono(H:Bi P Φ Nx fr cs):Bi P Φ Nx' fr cs:=ks (Mp.mono hN) H
theorem Jt.mono(g:Goroutine)(w:World):Jt P Φ Nx g w->Jt P Φ Nx' g w:=fun⟨h1,fr,cs,h2,h3⟩=>⟨h1,fr,cs,h2,hN _ _ h3⟩
theorem H9.mono(g:Goroutine)(w:World):H9 P Φ Nx g w->H9 P Φ Nx' g w:=fun⟨h1,g',h2,h3⟩=>⟨h1,g',h2,ks (Jt.mono hN) h3⟩
theorem AtW4.mono(g:Goroutine)(w:World):AtW4 P Φ Nx g w->AtW4 P Φ Nx' g w:=fun⟨h1,h2⟩=>⟨h1,fun hw=>let⟨g',h3,h4⟩:=h2 hw;⟨g',h3,ks (H9.mono hN) h4⟩⟩
theorem AtW3.mono(g:Goroutine)(w:World):AtW3 P Φ Nx g w->AtW3 P Φ Nx' g w:=fun⟨h1,h2,h3,h4⟩=>⟨h1,h2,h3,fun hw=>let⟨g',h5,h6⟩:=h4 hw;⟨g',h5,ks (AtW4.mono hN) h6⟩⟩
theorem P7.mono(g:Goroutine)(w:World):P7 P Φ Nx g w->P7 P Φ Nx' g w:=fun⟨h1,g',h2,h3⟩=>⟨h1,g',h2,ks (AtW3.mono hN) h3⟩
theorem AtW2.mono{Anch:Goroutine->Prop}{vs:Nat}(g:Goroutine)(w:World):AtW2 P Φ Nx Anch vs g w->AtW2 P Φ Nx' Anch vs g w:=
 fun⟨h1,h2⟩=>⟨h1,fun v hv hw=>⟨fun e=>let⟨g',h3,h4⟩:=(h2 v hv hw).1 e;⟨g',h3,ks (P7.mono hN) h4⟩,(h2 v hv hw).2⟩⟩
theorem AtW1.mono{Anch:Goroutine->Prop}(g:Goroutine)(w:World):AtW1 P Φ Nx Anch g w->AtW1 P Φ Nx' Anch g w:=
 fun⟨h1,h2⟩=>⟨h1,fun v hv hw=>let⟨g',h3,h4,h5⟩:=h2 v hv hw;⟨g',h3,fun e=>ks (H9.mono hN) (h4 e),fun e=>ks (AtW2.mono hN) (h5 e)⟩⟩
theorem kV.mono(H:kV P Φ Nx fr cs):kV P Φ Nx' fr cs:=let⟨Anch,h1,h2⟩:=H;⟨Anch,fun g hg=>ks (AtW1.mono hN) (h1 g hg),h2⟩
end
variable {f h h1:Heap}
section
variable {Φ:Ph}
theorem Nm(s:Sub h1 h)(ha:Apart h f):Apart h1 f:=fun b hb=>by
 cases e:h1 b with
 | none=>rfl
 | some o=>have:=s b o e;rw[ha b hb]at this;cases this
theorem PE(s:Sub h1 h)(ha:Apart h f):Sub (plus h1 f) (plus h f):=fun b o hb=>by
 unfold plus at hb ⊢;cases e:h1 b with
 | some u=>rw[e]at hb;rw[s b u e];exact hb
 | none=>
  rw[e]at hb;have:h b=none:=ha b (by simp only at hb;rw[hb];simp);rw[this];exact hb
theorem CP.frame{i:Nat}{Nx Nx':Frame->List Frame->Heap->Prop}(ha:Apart h f)(hN:∀fr cs h1,Nx fr cs h1->Apart h1 f->Nx' fr cs (plus h1 f))(H:CP P Φ i Nx fr cs h):CP P Φ i Nx' fr cs (plus h f):=by
 obtain⟨h1,hc,s1,sc,hap,hS,H⟩:=H;refine⟨plus h1 f,hc,PE s1 ha,fun b o hb=>by simp[plus,sc b o hb],fun b hb hn=>ye.2 ⟨hap b hb hn,?_⟩,fun b hb=>by simp[plus,hS b hb],fun w hw hJ=>?_⟩
 ·cases e:f b with
  | none=>rfl
  | some o=>
   have h2:=ha b (by rw[e];simp);cases e2:hc b with
   | none=>exact absurd e2 hn
   | some u=>rw[sc b u e2]at h2;cases h2
 ·obtain⟨fr',cs',frc,csc,h2,h3,h4⟩:=H w hw.left hJ;exact⟨fr',cs',frc,csc,h2,h3,hN _ _ _ h4 (Nm s1 ha)⟩
theorem Sp.frame{Q:Frame->List Frame->Heap->Prop}:∀(r:Nat) {fr:Frame} {cs:List Frame} {h:Heap},Apart h f->Sp P Φ Q r fr cs h->Sp P Φ (fun fr cs h2=>∃h1,Q fr cs h1/\Apart h1 f/\h2=plus h1 f) r fr cs (plus h f):=by
 intro r;induction r with
 | zero=>
  intro fr cs h ha H;refine(Safe.frame H f ha).bind fun fr cs h2 ⟨h1,hW,ha1,e⟩=>.done ?_
  exact kV.mono (fun fr' cs' hq=>⟨h1,hq,ha1,e⟩) hW
 | succ r ih=>
  intro fr cs h ha H;refine(Safe.frame H f ha).bind fun fr cs h2 ⟨h1,hA,ha1,e⟩=>.done ?_
  subst e;refine Bi.mono (fun fr' cs' hB=>?_) hA;refine(Safe.frame hB f ha1).bind fun fr cs h2 ⟨h3,hC,ha3,e⟩=>.done ?_
  subst e;exact hC.frame ha3 fun fr cs h1 hq ha=>ih ha hq
end
variable {b:Nat}{o:Obj}
theorem upd_same':upd h b o b=some o:=by simp[upd]
theorem upd_ne'{b x:Nat}(hx:x≠b):upd h b o x=h x:=by simp[upd,hx]
def Ph.vals(Φ:Ph):Array Value:=((List.range Φ.n).map Φ.val).toArray
def Ph.rest(Φ:Ph)(h:Heap):Heap:=fun b=>if b=Φ.Wg\/b=Φ.C then none else h b
structure PhOk(Φ:Ph)(S:Nat->Prop)(h:Heap)(zs:Array Value):Prop where
 nobig:∀fr cs h Q,¬Φ.S.big fr cs h Q
 small:Φ.n<2147483648
 ne:Φ.C≠Φ.Wg
 wg:h Φ.Wg=some (wgBlock Φ.ty 0 0)
 arr:h Φ.C=some (.cells zs Φ.ety)
 size:zs.size=Φ.n
 sub:∀b,S b->Φ.S b
 held:∀b,Φ.S b->Φ.rest h b≠none
def Phase(P:Program)(S:Nat->Prop)(fr:Frame)(cs:List Frame)(h:Heap)(Q:Frame->List Frame->Heap->Prop):Prop:=
 ∃(Φ:Ph) (zs:Array Value),PhOk Φ S h zs/\Sp P Φ (fun fr' cs' h'=>Q fr' cs' (upd h' Φ.C (.cells Φ.vals Φ.ety))) Φ.n fr cs (Φ.rest h)
def jz(P:Program)(s:Nat->Prop):Shared:=⟨s,Phase P s⟩
structure Out(P:Program)(S:Shared)(w0:World)(h:Heap)(g0:Goroutine)(T:List WS)(gs:Array Goroutine)(w:World)(t:Trace):Prop where
 C:Com w0 S T.length h T w t
 gsz:gs.size=T.length+1
 sit:∀(k:Nat) (x:WS),T[k]? = some x->x.heap=emp/\x.stage=1/\∃g,gs[k+1]? = some g/\QuitsD P x.fuel (Deaf t (k+1)) g
 g0:gs[0]? = some g0
 deaf:Deaf t 0=0
section
variable {Φ:Ph}{S:Shared}{N0 j:Nat}{h' hc : Heap}{T:List WS}{gs:Array Goroutine}{w0 w w' : World}{t:Trace}{es:Array Event}{sl:Option (Nat × Nat)}{st sm:Int}{g0 g1:Goroutine}
  {Good:Machine -> Outcome -> World -> Trace -> Prop}
theorem Out.at(X:Out P S w0 h g0 T gs w t)(d:Nat):Out P S w0 h g0 T gs (w.at d) t:=⟨X.C.at d,X.gsz,X.sit,X.g0,X.deaf⟩
theorem Out.worker(X:Out P S w0 h g0 T gs w t)(hr:g0.status=.running){k:Nat}(hk:gs[k+1]? = some g)(hrun:g.status=.running) :
  ∃T' gs' w' ops,runT P (crowd gs w sl) (k+1)=(.next (crowd gs' w' sl),ops)/\One WS.lt T' T/\Out P S w0 h g0 T' gs' w' (t++ops):=by
 have hlt:k<T.length:=by
  have:=(uS.1 hk).1;rw[X.gsz]at this;omega
 have hx:=vO hlt;generalize T[k]=x at hx;obtain⟨he,h1,g',hg,hQ⟩:=X.sit k x hx;rw[hk]at hg;cases hg
 obtain⟨s,rk,m,hp⟩:=x;simp only at he h1 hQ;subst he h1;cases m with
 | zero=>rw[hQ.1]at hrun;cases hrun
 | succ m=>
  rcases hQ with⟨h1,_⟩ | ⟨_,g',es,hm,h1,h2⟩
  ·rw[h1]at hrun;cases hrun
  ·have ht:∀e∈es,(MemAct.ofEvent e).touch? = none:=fun e he=>by
    rcases bk_of_mute (Wg:=0) (hm e he)with h3 | h3 | ⟨a,q,h3,_⟩
    ·rw[ofEvent_loc_mark h3];rfl
    ·rw[ofEvent_loc_mark h3];rfl
    ·have:=hm e he;rw[h3]at this;simp[Event.mute]at this
   refine⟨T.set k ⟨1,rk,m,emp⟩,_,w,_,P8 hk (h1 w),One.set hx (WS.Mq rfl rfl (mC _)),?_,?_,?_,?_,?_⟩
   ·rw[uR];refine X.C.other (g:=k+1) (by omega) g_of_ofEvents (uR ..) (fun i z hz=>?_) ⟨rfl,rfl,rfl⟩ rfl (fun b _=>rfl) (fun op hop b hb=>?_) (fun op hop a hr=>?_) (.inr (.inr fun op hop=>?_))
    ·rcases yH hz with⟨rfl,rfl⟩ | ⟨_,hz⟩
     ·exact⟨_,hx,fun b hb=>absurd rfl hb⟩
     ·exact⟨z,hz,fun b _=>rfl⟩
    ·obtain⟨e,he,rfl⟩:=yK hop;have:=ht e he;simp only at hb;rw[this]at hb;cases hb
    ·obtain⟨e,he,rfl⟩:=yK hop;simp only at hr;rcases bk_of_mute (Wg:=0) (hm e he)with h3 | h3 | ⟨a,q,h3,_⟩
     ·rw[ofEvent_loc_mark h3]at hr;cases hr
     ·rw[ofEvent_loc_mark h3]at hr;cases hr
     ·have:=hm e he;rw[h3]at this;simp[Event.mute]at this
    ·obtain⟨e,he,rfl⟩:=yK hop;exact ht e he
   ·rw[uR,<-X.gsz];simp[kW]
   ·intro i z hz;rcases yH hz with⟨rfl,rfl⟩ | ⟨hi,hz⟩
    ·exact⟨rfl,rfl,g',HA hk,by rw[Deaf_own];exact h2⟩
    ·obtain⟨h3,h4,o,ho,hq⟩:=X.sit i z hz;exact⟨h3,h4,o,KY (pN hi) ho hq.status,by rw[UE _ _ es (pN hi)];exact hq⟩
   ·rw[DF X.g0,BO (.inl hr)]
   ·rw[Deaf_other t (by omega) _ g_of_ofEvents];exact X.deaf
theorem Out.awake(X:Out P S w0 h g0 T gs w t)(hr:g0.status=.running):∀g∈gs,awake g:=by
 intro g hg2 tm;obtain⟨i,hi⟩:=Array.mem_iff_getElem?.1 hg2;cases i with
 | zero=>
  rw[X.g0]at hi;cases hi
  rw[hr];simp
 | succ i=>
  have hlt:i<T.length:=by
   have:=(uS.1 hi).1;rw[X.gsz]at this;omega
  obtain⟨_,_,g',hg',hq⟩:=X.sit i _ (vO hlt);rw[hi]at hg';cases hg'
  rcases hq.status with h | h <;> rw[h] <;> simp
theorem Out.Av(hr:g0.status=.running)(hM:∀T' gs w t sl,Out P S w0 h g0 T' gs w t->Ju P Good gs w sl t)(X:Out P S w0 h g0 T gs w t)(sl:Option (Nat×Nat)):Runs P Good (crowd gs w sl) t:=
 Eng.Av (I:=fun T gs w t=>Out P S w0 h g0 T gs w t) (T0:=T) (fun T gs w t d X=>X.at d) (fun T gs w t X=>X.awake hr) (fun T gs w t X=>⟨0,g0,X.g0,hr⟩)
  (fun T gs w t sl k g X hk hg=>X.worker hr hk hg) (fun T' gs w t sl g _ X _ _=>hM T' gs w t sl X) T gs w t sl (.refl T) X
theorem Out.S3(X:Out P S w0 h g0 T gs w t)(K:Kept S h h' w w')(hes:∀e∈es,Ai S h w w' e)(fn:FuncId)(pos:String):Out P S w0 h' g1 T (xN P gs g0 g1 w') w' (t++MemOp.ofEvents 0 fn pos es):=by
 refine⟨X.C.main K hes fn pos,by rw[<-X.gsz];simp[xN],fun k x hx=>?_,Cx X.g0,?_⟩
 ·obtain⟨h1,h2,o,ho,hq⟩:=X.sit k x hx;exact⟨h1,h2,o,Cy ho hq.status,by rw[Deaf_other t (by omega) _ g_of_ofEvents];exact hq⟩
 ·rw[Deaf_own,X.deaf];refine deafBehind_idle (fun e he=>?_) _;rcases hes e he with⟨a,h1,_⟩ | ⟨m,hm,rfl⟩
  ·rw[h1];exact⟨by simp,by simp⟩
  ·cases m <;> simp[Quiet]at hm ⊢
theorem Out.enter{zs:Array Value}(hΦ:PhOk Φ S h zs)(ha:Apart h f)(X:Out P S w0 (plus h f) g0 T gs w t):Iop P Φ T.length 0 (plus (Φ.rest h) f) w0 (MO False 0) 0 g0 T gs w t:=by
 have held:∀ {b:Nat},h b≠none->plus h f b≠none:=fun hb hn=>hb (ye.1 hn).1
 have hfW:f Φ.Wg=none:=by
  cases e:f Φ.Wg with
  | none=>rfl
  | some o=>have:=ha Φ.Wg (by rw[e];simp);rw[hΦ.wg]at this;cases this
 have hfC:f Φ.C=none:=by
  cases e:f Φ.C with
  | none=>rfl
  | some o=>have:=ha Φ.C (by rw[e];simp);rw[hΦ.arr]at this;cases this
 have sub:Sub (plus (Φ.rest h) f) (plus h f):=PE (fun b o hb=>by
  unfold Ph.rest at hb
  split at hb
  ·cases hb
  ·exact hb) ha
 have noE:∀ {k:Nat} {x:WS},T[k]? = some x->∀b,x.heap b=none:=fun hx b=>by rw[(X.sit _ _ hx).1];rfl
 have kn:∀(i:Nat) (a:Touch) (ad:Addr),touchAt t i=some a->a.loc=.cell ad->plus h f ad.block≠none->Knows t 0 i:=fun i a ad h1 h2 h3=>by
  rcases X.C.kn i a ad h1 h2 h3 with h4 | ⟨_,_,_,q,h5,h6⟩
  ·exact h4
  ·obtain⟨op,ho,rfl⟩:=vT.1 h6;have:=X.C.gsb i op ho;omega
 have hwW:WgAt Φ.ty Φ.Wg w 0 0:=X.C.has Φ.Wg _ (by simp[plus,hΦ.wg]);have hwC:w.heap[Φ.C]? = some (.cells zs Φ.ety):=X.C.has Φ.C _ (by simp[plus,hΦ.arr]);refine⟨⟨X.C.env,X.C.has.sub sub,fun b hb hn=>hΦ.held b hb (ye.1 hn).1,X.C.hasW,fun i x hx b _ hb=>absurd (noE hx b) hb,fun i q x y hx _ _ b _ hb=>absurd (noE hx b) hb,X.C.nr,X.C.gsb,X.C.lo,X.C.norel,fun i a ad h1 h2 h3=>.inl (kn i a ad h1 h2 fun hn=>?_),fun k x hx i a ad _ _ hb=>absurd (noE hx _) hb,X.C.ho⟩,?_,⟨0,0,hwW,⟨?_,?_,?_⟩,False.elim⟩,X.g0,X.deaf⟩
 ·obtain⟨h4,h5⟩:=ye.1 hn;refine h3 (ye.2 ⟨?_,h5⟩);unfold Ph.rest;split
  ·rfl
  ·exact h4
 ·refine⟨rfl,gO _,X.gsz,fun k x hx=>?_,fun k x hx _=>(X.sit k x hx).2.1,hΦ.ne,⟨ye.2 ⟨by simp[Ph.rest],hfW⟩,ye.2 ⟨by simp[Ph.rest],hfC⟩⟩,fun k x hx=>⟨noE hx _,noE hx _⟩,⟨?_,?_⟩,⟨zs,hwC,hΦ.size⟩,fun i a ad h1 h2 h3=>.inr fun k hk=>?_,fun off i a _ h1 h2=>?_,fun k x hx h8=>?_,fun i a ad h1 h2 h3=>.inl ?_,fun k x hx hk=>?_,fun k x hx hk=>?_⟩
  ·obtain⟨h1,h2,o,ho,hq⟩:=X.sit k x hx;obtain⟨s,rk,m,hp⟩:=x;simp only at h1 h2 hq;subst h1 h2;exact⟨o,ho,.quit hq⟩
  ·exact X.C.has.lt (b:=Φ.Wg) (by simp[plus,hΦ.wg];rfl)
  ·exact X.C.has.lt (b:=Φ.C) (by simp[plus,hΦ.arr];rfl)
  ·obtain rfl:k=0:=by omega
   exact kn i a ad h1 h2 (held (by rw[h3,hΦ.wg];simp))
  ·exact kn i a _ h1 h2 (held (by rw[hΦ.arr];simp))
  ·have:=(X.sit k x hx).2.1;omega
  ·exact kn i a ad h1 h2 (held (by rw[h3,hΦ.arr];simp))
  ·have:=(vS.1 hx).1;omega
  ·have:=(vS.1 hx).1;omega
 ·have:V T=0:=by
   unfold V;refine gI.2 fun x hx=>?_
   obtain⟨k,hk⟩:=nM hx;simp[(X.sit k x hk).2.1]
  rw[this];simp
 ·rfl
 ·exact fun k x hx=>by have:=(X.sit k x hx).2.1;omega
theorem Iop.join(hsub:∀b,S b->Φ.S b)(X:Iop P Φ N0 Φ.n h w0 (MO True 0) 0 g0 T gs w t)(fn:FuncId)(pos:String):Out P S w0 (upd h Φ.C (.cells Φ.vals Φ.ety)) g1 T (xN P gs g0 g1 w) w (t++MemOp.ofEvents 0 fn pos #[Go.ConcR.mk (.acquire (stA Φ.Wg))]):=by
 obtain⟨st,sm,hw,⟨_,hall⟩⟩:=X.wg;have hall:=hall trivial;have emps:∀ {k:Nat} {x:WS},T[k]? = some x->x.heap=emp/\∃g,gs[k+1]? = some g/\QuitsD P x.fuel (Deaf t (k+1)) g:=fun {k x} hx=>by
  obtain⟨g,hg,hs⟩:=X.I.sit k x hx;have h1:=hall k x hx;generalize Deaf t (k+1)=d at hs ⊢;cases hs <;> simp at h1
  case quit hq=>exact⟨rfl,g,hg,hq⟩
 have X2:Iop P Φ N0 Φ.n h w0 (MO True 0) 0 g1 T (xN P gs g0 g1 w) w (t++MemOp.ofEvents 0 fn pos #[Go.ConcR.mk (.acquire (stA Φ.Wg))]):=X.book (Aside.refl _ _) hw ⟨‹_›,fun _=>hall⟩ (FP (.inr (.inr (.inr (.inr rfl))))) fn pos;have eu:MemOp.ofEvents 0 fn pos #[Go.ConcR.mk (.acquire (stA Φ.Wg))]=#[{ g:=0,fn,pos,act:=.mark (.acquire (stA Φ.Wg)) }]:=by rw[ofEvents_eq];simp[ofEvent_mk]
 generalize hu:MemOp.ofEvents 0 fn pos #[Go.ConcR.mk (.acquire (stA Φ.Wg))]=u at X2 eu ⊢;have hlast:(t++u)[t.size]? = some { g:=0,fn,pos,act:=.mark (.acquire (stA Φ.Wg)) }:=by rw[eu];simp
 have hq:(t++u).act? t.size=some (.mark (.acquire (stA Φ.Wg))):=by rw[act?_of hlast]
 have hqh:(t++u).heard t.size:=⟨0,by simp[Trace.g?,hlast],by rw[deaf_old (uI _)];exact X.deaf⟩;have nt:∀op∈u,op.act.touch? = none:=fun op hop=>by
  rw[eu]at hop;simp only[nE,uF]at hop;subst hop;rfl
 have oldt:∀ {i:Nat} {a:Touch},touchAt (t++u) i=some a->i<t.size/\touchAt t i=some a:=fun ha=>by
  rcases yu ha with h | ⟨op,h1,h2,_⟩
  ·exact h
  ·rw[nt op h1]at h2;cases h2
 have joined:∀(i k:Nat),t.g? i=some k->N0<k->t.counts i->Knows (t++u) 0 i:=by
  intro i k hg hk hcn;obtain⟨op,ho,rfl⟩:=vT.1 hg;have hle:=X.C.gsb i op ho;have hx:T[op.g-1]? = some T[op.g-1]:=vO (by omega);obtain⟨r,hr⟩:=X.I.rel (op.g-1) _ hx (by omega) (by rw[hall _ _ hx];omega);rw[show op.g-1+1=op.g by omega]at hr;have hrt:r<t.size:=lt_of_act? hr.act;have hile:i<=r:=Nat.le_of_not_lt fun hlt=>hr.after i hlt hg hcn
  have edge:HappensBefore (t++u) r t.size:=.single (.inr ⟨.marked (a:=stA Φ.Wg) hrt (.inr (by rw[act?_old hrt];exact hr.act)) hq (fun q _ _=>X2.C.norel q _),(heard_old hrt).2 hr.heard,hqh⟩);have hit:i<t.size:=lt_size_of_getElem? ho;refine⟨t.size,_,hlast,rfl,.inr ?_⟩;rcases nS i r with hlt | hge
  ·exact .trans (.single (.inl ⟨hlt,op.g,by rw[g?_old hit];exact hg,by rw[g?_old hrt];exact hr.g⟩)) edge
  ·obtain rfl:i=r:=by omega
   exact edge
 have countP:∀ {i:Nat} {a:Touch},touchAt t i=some a->a.kind=.plain->t.counts i:=fun {i a} ha hk=>by
  obtain⟨ad,e,_⟩:=X.C.lo i a ha;exact⟨a,ha,by rw[e];rfl,.inl (by rw[hk];simp)⟩
 have hC:w.heap[Φ.C]? = some (.cells Φ.vals Φ.ety):=by
  obtain⟨cs,hc1,hc2⟩:=X.I.pay;rw[hc1];congr 2;refine Array.ext (by simp[Ph.vals,hc2]) fun i h1 h2=>?_
  have hl:=X.I.len;have hx:T[N0+i]? = some T[N0+i]:=vO (by omega);have:=X.I.vals (N0+i) _ hx (by omega) (by rw[hall _ _ hx];omega);rw[show N0+i-N0=i by omega]at this;simp only[World.cell?,hc1]at this;simp only[Ph.vals,List.getElem_toArray,List.getElem_map,List.getElem_range];simp[h1]at this;exact this
 refine⟨⟨X2.C.env,fun b o hb=>?_,fun b hb=>?_,X2.C.hasW,fun i x hx b _ hb=>?_,fun i q x y hx _ _ b _ hb=>?_,X2.C.nr,X2.C.gsb,X2.C.lo,X2.C.norel,fun i a ad h1 h2 h3=>.inl ?_,fun k x hx i a ad _ _ hb=>?_,fun i k hg hk _ hcn=>?_⟩,X2.I.gsz,fun k x hx=>?_,X2.g0,X2.deaf⟩
 ·by_cases e:b=Φ.C
  ·subst e;rw[upd_same']at hb;cases hb;exact hC
  ·rw[upd_ne' e]at hb;exact X.C.has b o hb
 ·by_cases e:b=Φ.C
  ·subst e;rw[upd_same'];simp
  ·rw[upd_ne' e];exact X.C.inv b (hsub b hb)
 ·rw[(emps hx).1]at hb;exact absurd rfl hb
 ·rw[(emps hx).1]at hb;exact absurd rfl hb
 ·obtain⟨hit,h4⟩:=oldt h1;by_cases e:ad.block=Φ.C
  ·rcases X.I.cC i a ad h4 h2 e with h5 | ⟨h5,q,h6,h7⟩
   ·exact jh h5
   ·exact joined i q h7 h6 (countP h4 h5)
  ·rw[upd_ne' e]at h3;rcases X.C.kn i a ad h4 h2 h3 with h5 | ⟨_,_,h5,q,h6,h7⟩
   ·exact jh h5
   ·exact joined i q h7 h6 (countP h4 h5)
 ·rw[(emps hx).1]at hb;exact absurd rfl hb
 ·rcases g?_cases hg with⟨hit,h1⟩ | ⟨op,h1,rfl,h2⟩
  ·have hcn':=(counts_old hit).1 hcn;by_cases hkN:N0<k
   ·exact joined i k h1 hkN hcn'
   ·exact jh (X.C.ho i k h1 hk (by omega) hcn')
  ·obtain⟨x,hx,_⟩:=hcn;simp[Trace.act?,h2,nt op h1]at hx
 ·obtain⟨h1,g,hg,hs⟩:=emps hx;refine⟨h1,hall k x hx,g,Cy hg hs.status,?_⟩;have:Deaf (t++u) (k+1)=Deaf t (k+1):=by rw[<-hu];exact Deaf_other t (by omega) _ g_of_ofEvents
  rw[this];exact hs
end
end Go.Eng
namespace Go.Eng
open Go Go.Conc
open Go.ConcN hiding upd upd_same upd_ne
open Go.ConcR (KK wgBlock WgAt stA smA rd wr g_of_ofEvents Bk DC0 bk_of_mute ofEvent_loc_mark ofEvent_cell ofEvent_mk deafBehind_cons deafBehind_one)
variable {fr:Frame}{v:Value}
section
variable {P:Program}{S:Shared}{h h' : Heap}{T:List WS}{gs:Array Goroutine}{w0 w w' : World}{t:Trace}{es:Array Event}{sl:Option (Nat × Nat)}{g0 g1:Goroutine}
  {Good:Machine -> Outcome -> World -> Trace -> Prop}
theorem Z0(hbig:∀fr cs h Q,S.big fr cs h Q->Phase P S fr cs h Q){Post:Frame->List Frame->Heap->Prop}{cs:List Frame}(H:Safe P S Post fr cs h):∀(T:List WS) (gs:Array Goroutine) (w:World) (t:Trace) (sl:Option (Nat×Nat)),
  Out P S w0 h (gor fr cs) T gs w t ->
  (∀fr' cs' h' T' gs' w' t' sl',Post fr' cs' h'->(∀b,S b->h' b=h b)->Out P S w0 h' (gor fr' cs') T' gs' w' t'->Runs P Good (crowd gs' w' sl') t')->Runs P Good (crowd gs w sl) t:=by
 induction H with
 | done p=>exact fun T gs w t sl X K=>K _ _ _ T gs w t sl p (fun _ _=>rfl) X
 | step fr' cs' w' es h' hs _ ih=>
  intro T gs w t sl X K;refine X.Av rfl (fun T' gs w t sl X=>?_) sl;obtain⟨h1,h2,h3⟩:=hs w true X.C.has;exact .inl ⟨_,_,CR X.g0 h1,ih w true X.C.has T' _ _ _ sl (X.S3 h2 h3 _ _) fun fr2 cs2 h2' T2 gs2 w2 t2 sl2 p hro=>K fr2 cs2 h2' T2 gs2 w2 t2 sl2 p fun b hb=>(hro b hb).trans (h2.ro b hb)⟩
 | @big fr cs h h0 f Q e ha hb _ ih=>
  subst e;intro T gs w t sl X K;obtain⟨Φ,zs,hΦ,hsp⟩:=hbig _ _ _ _ hb;have har:Apart (Φ.rest h0) f:=Nm (fun b o hb=>by
   unfold Ph.rest at hb
   split at hb
   ·cases hb
   ·exact hb) ha
  refine za2 hΦ.nobig hΦ.small Φ.n 0 fr cs _ T gs w t sl (by omega) (Sp.frame Φ.n har hsp) (X.enter hΦ ha) fun h' g' T' gs' w' t' sl' hro hst X=>?_
  have s1:Bj T.length Φ.n (MO True 0):=MO.shut (n:=Φ.n) (by omega) hΦ.small;refine X.stop s1 (hst w' X.J).1 sl' fun T'' gs w t sl _ X=>?_
  obtain⟨_,fr',cs',hs,h1,hQ,ha1,rfl⟩:=hst w X.J;have fC:f Φ.C=none:=by
   cases e:f Φ.C with
   | none=>rfl
   | some o=>have:=ha Φ.C (by rw[e];simp);rw[hΦ.arr]at this;cases this
  have eh:upd (plus h1 f) Φ.C (.cells Φ.vals Φ.ety)=plus (upd h1 Φ.C (.cells Φ.vals Φ.ety)) f:=by
   funext b;by_cases e:b=Φ.C
   ·subst e;simp[upd,plus]
   ·simp[upd,plus,e]
  have agr:∀b,S b->upd h1 Φ.C (.cells Φ.vals Φ.ety) b=h0 b:=fun b hb=>by
   have hn:=hΦ.held b (hΦ.sub b hb);have hr:Φ.rest h0 b=h0 b/\b≠Φ.C:=by
    unfold Ph.rest at hn ⊢;split at hn
    ·exact absurd rfl hn
    ·rename_i hc;rw[vM hc];exact⟨rfl,fun e=>hc (.inr e)⟩
   have h2:=hro b (hΦ.sub b hb);have h0n:h0 b≠none:=by rw[<-hr.1];exact hn
   have fb:f b=none:=by
    cases e:f b with
    | none=>rfl
    | some o=>exact absurd (ha b (by rw[e];simp)) h0n
   rw[upd_ne' hr.2];have e1:plus h1 f b=h1 b:=by unfold plus;cases h1 b <;> simp[fb]
   have e2:plus (Φ.rest h0) f b=Φ.rest h0 b:=by unfold plus;cases Φ.rest h0 b <;> simp[fb]
   rw[<-e1,h2,e2,hr.1]
  have ap2:Apart (upd h1 Φ.C (.cells Φ.vals Φ.ety)) f:=fun b hb=>by
   by_cases e:b=Φ.C
   ·subst e;exact absurd fC hb
   ·rw[upd_ne' e];exact ha1 b hb
  have X2:=X.join (S:=S) (g1:=gor fr' cs') hΦ.sub g'.frame.fn g'.frame.place;rw[eh]at X2;refine⟨_,w,_,hs,ih fr' cs' _ hQ ap2 agr T'' _ w _ sl X2 fun fr2 cs2 h2' T2 gs2 w2 t2 sl2 p hro2=>K fr2 cs2 h2' T2 gs2 w2 t2 sl2 p fun b hb=>?_⟩;rw[hro2 b hb];unfold plus;rw[agr b hb]
theorem Wq{o:Outcome}(h0:gs[0]? = some g0)(hs:stepG P true g0 w=.ended o w' es):runT P (crowd gs w sl) 0=(.ended o w',MemOp.ofEvents 0 g0.frame.fn g0.frame.place es):=by
 obtain⟨hlt,rfl⟩:=uS.1 h0;have hsw:=swapAt_of_lt hlt { (default:Goroutine)with status:=.finished };show runT P { world:=w,gs:=gs,rest:={ timers:=#[],alone:=none,slice:=sl } } 0=_;unfold runT;simp only[hsw,beq_self_eq_true,hs,GStep.es]
theorem Leaves.ended(H:Leaves P S fr h v)(hin:P.inits.idxOf? fr.fn=none)(hw:Has w h):∃es,stepG P true (gor fr []) w=.ended (.done v) w es/\∀e∈es,Ai S h w w e:=by
 obtain⟨hm,hd,hk,fn,hf,hr⟩:=H;obtain⟨n,w',es,e1,⟨rfl,rfl⟩,_,e3⟩:=Lu _ (hr w hw) #[];refine⟨seen P fr.fn (if false then #[]else es),?_,Om false e3⟩;rw[Sem.runT_eq]at e1;obtain⟨e1,e2⟩:=lR e1;simp[stepG,gor,hm,unwind,hd,hf,e1,e2,GStep.after,doReturn,hk,hin]
theorem UF(w:World)(s:Nat->Prop)(hs:∀b,s b->b<w.heap.size)(P:Program)(g:Goroutine):Out P (jz P s) w (kF w) g [] #[g] w #[]:=by
 have nt:∀(i:Nat) (a:Touch),touchAt (#[]:Trace) i=some a->False:=fun i a h=>by simp[touchAt,Trace.act?]at h
 refine⟨⟨⟨rfl,rfl,rfl⟩,MK w,fun b hb hn=>?_,fun i x hx=>by simp at hx,fun i x hx=>by simp at hx,fun i j x y hx=>by simp at hx,fun said=>noRace_nil said,fun i op h=>by simp at h,fun i a h=>(nt i a h).elim,fun i a h=>by simp[Trace.act?]at h,fun i a ad h=>(nt i a h).elim,fun k x hx=>by simp at hx,fun i k h=>by simp[Trace.g?]at h⟩,rfl,fun k x hx=>by simp at hx,rfl,rfl⟩;have:w.heap[b]? = none:=hn;rw[Array.getElem?_eq_none_iff]at this;have:=hs b hb;omega
theorem Wr{f:FuncId}{args:Array Value}(H:zb P (jz P fun b=>b<w.heap.size) f args (kF w) (fun u _=>u=v))(hin:P.inits.idxOf? f=none)(hb:((P.funcs[f]?).any fun fn=>fn.body.isSome&&fn.name != "runtime.NumGoroutine")=true) :
  ∃N last o w' t',runNT P (N+1) (solo (G (Frame.enter P f args .normal) []) w) #[]=(.ended o w',t')/\runN P N (solo (G (Frame.enter P f args .normal) []) w)=.next last/\Go.step P last=.ended o w' /\
   Conc.Good P (fun u w'=>u=v/\Go.RowKit.Below w.heap.size w w') last o w' t':=by
 replace H:=H.enters hb (MK w);have key:Runs P (fun m o w' t'=>Conc.Good P (fun u w'=>u=v/\Go.RowKit.Below w.heap.size w w') m o w' t') (crowd #[gor (Frame.enter P f args .normal) []] w none) #[]:=by
  refine Z0 (w0:=w) (fun _ _ _ _ h=>h) (H.2 []) [] #[gor (Frame.enter P f args .normal) []] w #[] none (UF w _ (fun _ h=>h) P _) ?_;rintro fr cs h' T gs w' t sl ⟨rfl,hfn,u,h1,rfl,_,_,hl⟩ hro X;refine X.Av rfl (fun T gs w' t sl X=>.inr ?_) sl;obtain⟨es,e1,e2⟩:=hl.ended (by rw[hfn];exact hin) X.C.has;refine⟨_,w',_,Wq X.g0 e1,fun w2 sl2=>?_⟩;have X2:=X.S3 (g1:=gor fr []) (Kept.refl X.C.has) e2 (gor fr []).frame.fn (gor fr []).frame.place;refine⟨u,rfl,⟨rfl,X.C.env.1,X.C.env.2.1,X.C.env.2.2,?_,fun b hb=>?_⟩,X2.C.nr,fun i g hg hne hc=>?_,⟨fun g hg=>?_,rfl⟩,fun i g hg hne=>?_⟩
  ·rcases Nat.eq_zero_or_pos w.heap.size with h0 | h0
   ·omega
   ·have hb:w.heap.size-1<w.heap.size:=by omega
    have h3:=hro (w.heap.size-1) hb;have h4:kF w (w.heap.size-1)=some w.heap[w.heap.size-1]:=by simp[kF,hb]
    rw[h4]at h3;have:=X.C.has.lt h3;omega
  ·have h3:=hro b hb;have h4:kF w b=some w.heap[b]:=by simp[kF,hb]
   rw[h4]at h3;rw[X.C.has b _ h3];simp[hb]
  ·obtain⟨op,ho,rfl⟩:=vT.1 hg;obtain⟨q,z,hq,hz,hbf⟩:=X2.C.ho i op.g hg hne (X2.C.gsb i op ho) hc;refine⟨q,by simp[Trace.g?,hq,hz],?_⟩;rcases hbf with rfl | hb
   ·rw[ho]at hq;cases hq;exact absurd hz hne
   ·exact hb
  ·obtain⟨k,hk⟩:=nM hg;rw[nV,Array.getElem?_toList]at hk;have hkl:k<T.length:=by
    have:=(uS.1 hk).1;have h3:gs.size=T.length+1:=X.gsz;have h4:(crowd gs w2 sl2).gs.size=gs.size:=rfl;omega
   obtain⟨_,_,o,ho,hq⟩:=X.sit k _ (vO hkl);have hk':gs[k+1]? = some g:=by rw[Nat.add_comm];exact hk
   rw[hk']at ho;cases ho
   exact⟨_,hq.leaves⟩
  ·have hk':gs[i]? = some g:=hg;obtain⟨k,rfl⟩:∃k,i=k+1:=⟨i-1,by omega⟩;have hkl:k<T.length:=by
    have:=(uS.1 hk').1;have h3:gs.size=T.length+1:=X.gsz;omega
   obtain⟨_,_,o,ho,hq⟩:=X.sit k _ (vO hkl);rw[hk']at ho;cases ho
   refine⟨T[k].fuel,?_⟩;have e:(t++MemOp.ofEvents 0 (gor fr []).frame.fn (gor fr []).frame.place es).deaf (k+1) (t++MemOp.ofEvents 0 (gor fr []).frame.fn (gor fr []).frame.place es).size=Deaf t (k+1):=Deaf_other t (by omega) _ g_of_ofEvents;show g.endsWith P w2 T[k].fuel ((t++MemOp.ofEvents 0 (gor fr []).frame.fn (gor fr []).frame.place es).deaf (k+1) (t++MemOp.ofEvents 0 (gor fr []).frame.fn (gor fr []).frame.place es).size)=some 0;rw[e];exact hq.hears w2
 exact key.run
end
end Go.Eng
end
