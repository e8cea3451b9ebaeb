import Derived.IntWalk
import Derived.Test.YtpodkihpnjhamaaGreatDoorChecked
import Derived.Conc.WgGenN3
import Derived.Conc.CrowdRun
import Derived.Test.YtpodkihpnjhamaaGreatDoorCb2
import Derived.Test.YtpodkihpnjhamaaGreatDoorCb3
import Derived.Test.YtpodkihpnjhamaaGreatDoorCb4
import Derived.Test.YtpodkihpnjhamaaGreatDoorCb5
import Derived.Test.YtpodkihpnjhamaaGreatDoorCb6
import Derived.Test.YtpodkihpnjhamaaGreatDoorCb7
set_option maxRecDepth 100000
set_option maxHeartbeats 8000000
set_option linter.unusedVariables false
set_option linter.unusedSimpArgs false
set_option linter.unusedSectionVars false
namespace Go.Proofs.YtpodkihpnjhamaaGreatDoor
open Go Go.Eng Go.IntWalk
section
variable {r:Rd}{al all bs xs ys:List Int}{F c ca dist dl f n room sz:Nat}{w:Bool}{cd cl cs:List (Nat×Nat)}{x:Int}{a a1 a2 aa ad:Option Addr}{v:Value}{g h h' h0:qaA}{S:Shared}
section
section
def tell(dl room:Nat)(r:Rd)(al d:List Int):Rd×List Int:=
 if r.k=0 then(if room<al.length-dl+d.length then(⟨r.i,6⟩,al)else(r,al++d))else(r,al)
def alg(r:Rd):Rd:=if r.k=0 then⟨(r.i+7)/8*8,0⟩else r
def stL(bs:List Int)(dl room:Nat):Nat->Rd->List Int->Rd×List Int
 | 0,r,al=>(r,al)
 | n+1,r,al=>if r.k=0 then stL bs dl room n (tell dl room (tk bs 8 r).1 al [(tk bs 8 r).2]).1 (tell dl room (tk bs 8 r).1 al [(tk bs 8 r).2]).2 else(r,al)
def stN(bs:List Int)(r:Rd):Int:=(tk bs 16 (alg r)).2
def stR(bs:List Int)(r:Rd):Rd:=bd ((tk bs 16 (tk bs 16 (alg r)).1).2 != 65535-stN bs r) (tk bs 16 (tk bs 16 (alg r)).1).1
def stF(bs:List Int)(dl room:Nat)(r:Rd)(al:List Int):Rd×List Int:=stL bs dl room (stN bs r).toNat (stR bs r) al
def xo(s:Nat):Nat×Nat:=if s=285 then(258,0)else if s<265 then(s-254,0)else((4+(s-265)%4)*2^((s-265)/4+1)+3,(s-265)/4+1)
def xW(d:Nat):Nat×Nat:=if d<4 then(d+1,0)else((2+d%2)*2^(d/2-1)+1,d/2-1)
def cpD(al:List Int)(dist n:Nat):List Int:=(List.range n).map fun k=>al.getD (al.length-dist+k%dist) 0
def cp1(bs:List Int)(r:Rd)(s:Nat):Rd×Int:=tk bs (xo s).2 r
def cp2(bs:List Int)(cd:List (Nat×Nat))(r:Rd)(s:Nat):Rd×Int:=sy bs cd (cp1 bs r s).1
def cp3(bs:List Int)(cd:List (Nat×Nat))(r:Rd)(s:Nat):Rd:=bd (decide (29<(cp2 bs cd r s).2)) (cp2 bs cd r s).1
def cp4(bs:List Int)(cd:List (Nat×Nat))(r:Rd)(s:Nat):Rd×Int:=tk bs (xW (cp2 bs cd r s).2.toNat).2 (cp3 bs cd r s)
def yW(bs:List Int)(cd:List (Nat×Nat))(r:Rd)(s:Nat):Nat:=(xW (cp2 bs cd r s).2.toNat).1+(cp4 bs cd r s).2.toNat
def kR(bs:List Int)(r:Rd)(s:Nat):Nat:=(xo s).1+(cp1 bs r s).2.toNat
def cp5(bs:List Int)(cd:List (Nat×Nat))(sz:Nat)(r:Rd)(al:List Int)(s:Nat):Rd:=bd (decide (al.length<yW bs cd r s)||decide (sz<yW bs cd r s)) (cp4 bs cd r s).1
def cpF(bs:List Int)(cd:List (Nat×Nat))(dl room sz:Nat)(r:Rd)(al:List Int)(s:Nat):Rd×List Int:=
 if(cp3 bs cd r s).k≠0 then(cp3 bs cd r s,al)
 else if(cp5 bs cd sz r al s).k≠0 then(cp5 bs cd sz r al s,al)
 else tell dl room (cp5 bs cd sz r al s) al (cpD al (yW bs cd r s) (kR bs r s))
def sy1(bs:List Int)(cd:List (Nat×Nat))(dl room sz:Nat)(r:Rd)(al:List Int)(x:Int):Rd×List Int:=
 if x<256 then tell dl room r al [x]else if 285<x then(bd true r,al)else cpF bs cd dl room sz r al x.toNat
def syF(bs:List Int)(cl cd:List (Nat×Nat))(dl room sz:Nat):Nat->Rd->List Int->Rd×List Int
 | 0,r,al=>(r,al)
 | f+1,r,al=>if r.k=0 then
   (if(sy bs cl r).1.k≠0\/(sy bs cl r).2=256 then((sy bs cl r).1,al)else syF bs cl cd dl room sz f (sy1 bs cd dl room sz (sy bs cl r).1 al (sy bs cl r).2).1 (sy1 bs cd dl room sz (sy bs cl r).1 al (sy bs cl r).2).2)
  else(r,al)
def le2(r r':Rd):Prop:=r'.k=0->r.k=0/\r.i<=r'.i
theorem le2.refl:le2 r r:=fun h=>⟨h,nR _⟩
theorem le2.trans{a b c:Rd}(H:le2 a b)(G:le2 b c):le2 a c:=fun h=>by
 obtain⟨h1,h2⟩:=G h;obtain⟨h3,h4⟩:=H h1;exact⟨h3,Int.le_trans h4 h2⟩
theorem y7:le2 r (tk bs n r).1:=fun h=>by
 have h0:=BI h;refine⟨h0,?_⟩;unfold tk at h ⊢;rw[vP h0]at h ⊢;split
 ·rename_i hgt;rw[vP hgt]at h;cases h
 ·simp only;omega
theorem xP:le2 r (bd w r):=fun h=>by
 obtain⟨h1,h2⟩:=GZ.1 h;refine⟨h1,?_⟩;unfold bd;rw[vM (fun e=>by rw[h2]at e;cases e.2)];exact nR _
theorem Gq{al d:List Int}:le2 r (tell dl room r al d).1:=fun h=>by
 unfold tell at h ⊢;split
 ·rename_i h0;rw[vP h0]at h;split
  ·rename_i hgt;rw[vP hgt]at h;cases h
  ·exact⟨h0,nR _⟩
 ·rename_i h0;rw[vM h0]at h;exact absurd h h0
theorem Be{al d:List Int}(H:okR bs r):okR bs (tell dl room r al d).1:=by
 unfold tell;split
 ·split
  ·intro h;cases h
  ·exact H
 ·exact H
theorem BK(H:okR bs r):okR bs (alg r):=by
 unfold alg;split
 ·rename_i h0;have:=H h0;intro _;simp only;omega
 ·exact H
theorem Rr:le2 r (alg r):=fun h=>by
 unfold alg at h ⊢;split
 ·rename_i h0;exact⟨h0,by simp only;omega⟩
 ·rename_i h0;rw[vM h0]at h;exact absurd h h0
theorem U4(h:(sy bs cs r).1.k=0):r.k=0/\r.i+1<=(sy bs cs r).1.i:=by
 unfold sy at h ⊢;by_cases h0:r.k=0
 ·rw[vP h0]at h ⊢;refine⟨h0,?_⟩;have hf:=Bd (bs:=bs) (cs:=cs) (i:=r.i.toNat);simp only at h ⊢;rcases hf with hf | hf
  ·omega
  ·rcases hf.1 with e | e
   ·rw[e]at h;simp at h
   ·rw[e]at h;simp at h
 ·rw[vM h0]at h;exact absurd h h0
theorem JD:le2 r (sy bs cs r).1:=fun h=>by
 have:=U4 h;exact⟨this.1,by omega⟩
theorem zbt{s:Nat}:le2 r (cpF bs cd dl room sz r al s).1:=by
 have h3:le2 r (cp3 bs cd r s):=(y7.trans JD).trans xP;have h5:le2 r (cp5 bs cd sz r al s):=h3.trans (y7.trans xP);unfold cpF;split
 ·exact h3
 ·split
  ·exact h5
  ·exact h5.trans Gq
theorem zbu{s:Nat}(H:okR bs r):okR bs (cpF bs cd dl room sz r al s).1:=by
 have h3:okR bs (cp3 bs cd r s):=jU (Cv (yp H));have h5:okR bs (cp5 bs cd sz r al s):=jU (yp h3);unfold cpF;split
 ·exact h3
 ·split
  ·exact h5
  ·exact Be h5
theorem Wu:le2 r (sy1 bs cd dl room sz r al x).1:=by
 unfold sy1;split
 ·exact Gq
 ·split
  ·exact xP
  ·exact zbt
theorem Wv(H:okR bs r):okR bs (sy1 bs cd dl room sz r al x).1:=by
 unfold sy1;split
 ·exact Be H
 ·split
  ·exact jU H
  ·exact zbu H
theorem Ww:∀ {n:Nat} {r:Rd} {al:List Int},okR bs r->okR bs (stL bs dl room n r al).1
 | 0,r,al,H=>H
 | n+1,r,al,H=>by
  unfold stL;split
  ·exact Ww (Be (yp H))
  ·exact H
theorem Wx:∀ {n:Nat} {r:Rd} {al:List Int},le2 r (stL bs dl room n r al).1
 | 0,r,al=>le2.refl
 | n+1,r,al=>by
  unfold stL;split
  ·exact(y7.trans Gq).trans Wx
  ·exact le2.refl
end
section
def LB:Nat->Nat×Nat
 | 0=>(3,0)
 | j+1=>(if 0<j then(LB j).1+2^(LB j).2 else(LB j).1,if 8<=j then(j-4)/4 else 0)
theorem zbv:∀s:Fin 285,257<=s.1->LB (s.1-257+1)=xo s.1:=by decide +kernel
theorem zcC:∀j:Fin 29,(LB j.1).1<=300/\(LB j.1).2<=6:=by decide +kernel
theorem To:∀s:Fin 286,257<=s.1->3<=(xo s.1).1/\(xo s.1).1<=258/\(xo s.1).2<=5:=by decide +kernel
theorem Tp:∀d:Fin 30,1<=(xW d.1).1/\(xW d.1).1<=24577/\(xW d.1).2<=13:=by decide +kernel
theorem U5(hi:qaC S h)(s:Nat)(h1:257<=s)(h2:s<=285) :
  zb oPP S By #[.int .i64 s] h (fun v h'=>v=.tuple #[.int .i64 (xo s).1,.int .i64 (xo s).2]/\h'=h):=by
 refine Kb (vs:=[.int .i64 s]) ⟨rfl,trivial⟩ hi ?_;simp only[Fb,Tr.wp,z8,Ex.ev,coerce,toInt_int,za,kp,zB,arith,Cst.val,SV.den,zq,zK,zz,zm,zl,zw,zY,vF,vG,vA,vB,vC,vT,vO,vU,vD,vE,vJ,vI,vK,uA,vY,vL];refine⟨fun he=>?_,fun hne=>?_⟩
 ·obtain rfl:s=285:=by have:(s:Int)=285:=uP.1 he;omega
  exact rfl
 ·have hne:s≠285:=fun e=>by subst e;simp at hne
  refine⟨fun us h'=>∃j:Nat,us=[.int .i64 (LB j).1,.int .i64 (LB j).2,.int .i64 ((257+j:Nat):Int)]/\257+j<=s+1/\h'=h,fun us _=>600-(toInt (us.getD 2 undef)).toNat,⟨0,rfl,by omega,rfl⟩,?_⟩;rintro x y z h' ⟨j,hx,hj,rfl⟩;obtain⟨rfl,rfl,rfl⟩:x=(LB j).1/\y=(LB j).2/\z=((257+j:Nat):Int):=by simpa using hx
  have hb:=zcC ⟨j,by omega⟩;simp only at hb;refine⟨fun hle=>?_,fun hgt=>?_⟩
  ·have w1:IntKind.i64.wrap (((257+j:Nat):Int)+1)=((257+(j+1):Nat):Int):=z9;have hj2:257+j<=s:=by omega
   have eE:(if((257+j:Nat):Int)>=265 then IntKind.i64.wrap ((IntKind.i64.wrap (((257+j:Nat):Int)-261)).tdiv 4)else 0)=((LB (j+1)).2:Int):=by
    simp only[LB];by_cases h8:8<=j
    ·rw[vP (by omega),vP h8,i64_in (((257+j:Nat):Int)-261) (by omega),uL (by omega),i64_in _ (by omega)];omega
    ·rw[vM (by omega),vM h8];rfl
   rw[w1,eE];have hp:(2:Nat)^(LB j).2<=64:=mQ (uX (by decide) hb.2) (by decide);refine⟨fun hgt=>?_,fun hngt _=>?_⟩
   ·refine(Aq hi _).mono ?_;rintro _ h3 ⟨rfl,rfl⟩;rw[vV];refine⟨_,rfl,fun _=>⟨⟨j+1,?_,by omega,rfl⟩,by simp only[vB,vA,toInt_int];omega⟩⟩;have e1:(LB (j+1)).1=(LB j).1+2^(LB j).2:=by simp only[LB];rw[vP (by omega)]
    rw[e1,i64_in _ (by omega)];push_cast;rfl
   ·refine⟨⟨j+1,?_,by omega,rfl⟩,by simp only[vB,vA,toInt_int];omega⟩;have e1:(LB (j+1)).1=(LB j).1:=by simp only[LB];rw[vM (by omega)]
    rw[e1]
  ·obtain rfl:j=s-257+1:=by omega
   have:=zbv ⟨s,by omega⟩ h1;simp only at this;rw[this];exact⟨rfl,rfl⟩
theorem Yo(hi:qaC S h)(d:Nat)(h1:d<=29) :
  zb oPP S Dn #[.int .i64 d] h (fun v h'=>v=.tuple #[.int .i64 (xW d).1,.int .i64 (xW d).2]/\h'=h):=by
 refine Mx (vs:=[.int .i64 d]) ⟨rfl,trivial⟩ hi ?_;simp only[HE,Tr.wp,z8,Ex.ev,coerce,toInt_int,za,zB,arith,Cst.val,SV.den,zq,zK,zz,zm,zl,zw,vF,vG,vA,vB,vO,vU,vD,vE,vJ,vI,vK,uA,vY,vL];refine⟨fun hlt=>?_,fun hge=>?_⟩
 ·have e:xW d=(d+1,0):=by unfold xW;rw[vP (by omega)]
  rw[e,i64_in ((d:Int)+1) (by omega)]
  first | exact rfl | (push_cast;rfl)
 ·have e:xW d=((2+d%2)*2^(d/2-1)+1,d/2-1):=by unfold xW;rw[vM (by omega)]
  have w1:IntKind.i64.wrap (IntKind.i64.wrap ((d:Int).tdiv 2)-1)=((d/2-1:Nat):Int):=by
   rw[uL (by omega),i64_in ((d:Int)/2) (by omega),i64_in _ (by omega)];omega
  have hp:(2:Nat)^(d/2-1)<=8192:=mQ (uX (by decide) (show d/2-1<=13 by omega)) (by decide);rw[w1];refine(Aq hi _).mono ?_;rintro _ h3 ⟨rfl,rfl⟩;rw[vV];have wm:(d:Int).tmod 2=((d%2:Nat):Int):=by rw[uG (by omega)];omega
  have w2:IntKind.i64.wrap (2+((d%2:Nat):Int))=((2+d%2:Nat):Int):=z9;have hle:(2+d%2)*2^(d/2-1)<=24576:=by
   have:=Nat.mul_le_mul (show 2+d%2<=3 by omega) hp;omega
  have w3:IntKind.i64.wrap (((2+d%2:Nat):Int)*((2^(d/2-1):Nat):Int))=(((2+d%2)*2^(d/2-1):Nat):Int):=by
   rw[<-Int.natCast_mul];exact i64_in _ (by omega)
  rw[wm,w2,e];refine⟨_,rfl,?_,rfl⟩;rw[w3,i64_in ((((2+d%2)*2^(d/2-1):Nat):Int)+1) (by omega)]
  push_cast;rfl
def Fj(a:Option Addr)(c:Nat)(al:List Int)(dl sz room:Nat):Value:=.agg #[.slice a al.length c,.int .i64 dl,.int .i64 sz,.int .i64 room]
def Cw(h0:qaA)(a:Option Addr)(c:Nat)(bs:List Int)(dl sz room:Nat)(F:Rd×List Int)(v:Value)(h':qaA):Prop:=
 ∃a' c',v=.tuple #[rdV a c bs F.1,Fj a' c' F.2 dl sz room]/\Part .u8 h' (.slice a' F.2.length c') F.2/\qaD h0 (.slice a' F.2.length c')/\qaB h0 h'
theorem Ln(hi:qaC S h0)(s:qaB h0 h)(a:Option Addr)(c:Nat)(bs:List Int)(r:Rd)(P:Part .u8 h (.slice aa al.length ca) al)(N:qaD h0 (.slice aa al.length ca))(hd:dl<=al.length)(hl:al.length<=2000000)(hr:room<=2000000)
  {cd:Nat}{d:List Int}(hx:zk h .u8 ad d)(hdl:d.length<=2000000) :
  zb oPP S wA #[rdV a c bs r,Fj aa ca al dl sz room,.slice ad d.length cd] h (Cw h0 a c bs dl sz room (tell dl room r al d)):=by
 refine Mv (vs:=[.slice a bs.length c,.int .i64 r.i,.int .i64 r.k,.slice aa al.length ca,.int .i64 dl,.int .i64 sz,.int .i64 room,.slice ad d.length cd]) ⟨rfl,rfl,rfl,rfl,rfl,rfl,rfl,rfl,trivial⟩ (hi.sub s) ?_;simp only[HA,Tr.wp,Ex.ev,coerce,toInt_int,za,zd,zi,ze,xu,kp,zB,arith,Cst.val,SV.den,vA,vB,vC,vD,vE,vJ,vI,uJ];have w1:IntKind.i64.wrap ((al.length:Int)-dl)=((al.length-dl:Nat):Int):=z9;have w2:IntKind.i64.wrap (((al.length-dl:Nat):Int)+d.length)=((al.length-dl+d.length:Nat):Int):=z9;rw[w1,w2];by_cases h0k:r.k=0
 ·by_cases hroom:room<al.length-dl+d.length
  ·have et:tell dl room r al d=(⟨r.i,6⟩,al):=by unfold tell;rw[vP h0k,vP hroom]
   have ek:(if(decide ((r.k==0)=true)&&decide (((al.length-dl+d.length:Nat):Int)>(room:Int)))=true then 6 else r.k)=6:=by
    rw[vP];simp[h0k];omega
   rw[ek,et];exact⟨fun h=>by simp at h,fun _ _=>⟨aa,ca,rfl,P,N,s⟩⟩
  ·have et:tell dl room r al d=(r,al++d):=by unfold tell;rw[vP h0k,vM hroom]
   have ek:(if(decide ((r.k==0)=true)&&decide (((al.length-dl+d.length:Nat):Int)>(room:Int)))=true then 6 else r.k)=r.k:=by
    rw[vM];simp[h0k];omega
   rw[ek,et];refine⟨fun _=>?_,fun h=>by rw[h0k]at h;cases h⟩;refine zI hi s P N hx (by omega) fun v5 h5 o5 n5 s5 _ _ _=>?_
   obtain⟨a5,c5,rfl,_,_⟩:=o5.ints;exact⟨a5,c5,rfl,o5,n5,s5⟩
 ·have et:tell dl room r al d=(r,al):=by unfold tell;rw[vM h0k]
  have ek:(if(decide ((r.k==0)=true)&&decide (((al.length-dl+d.length:Nat):Int)>(room:Int)))=true then 6 else r.k)=r.k:=by
   rw[vM];simp[h0k]
  rw[ek,et];exact⟨fun h=>absurd (uP.1 h) h0k,fun _ _=>⟨aa,ca,rfl,P,N,s⟩⟩
theorem Hg{al d:List Int}(h1:dl<=al.length)(h2:al.length<=dl+room):dl<=(tell dl room r al d).2.length/\(tell dl room r al d).2.length<=dl+room:=by
 unfold tell;split
 ·split
  ·exact⟨h1,h2⟩
  ·simp only[vR];omega
 ·exact⟨h1,h2⟩
theorem U6(hi:qaC S h0)(s:qaB h0 h)(hx:zk h0 .u8 a bs)(L:bs.length<=1048576)(r:Rd)(ok:okR bs r)(P:Part .u8 h (.slice aa al.length ca) al)(N:qaD h0 (.slice aa al.length ca))(hd:dl<=al.length)(hl:al.length<=dl+room)(hdl:dl<=40000)(hr:room<=100000) :
  zb oPP S Bv #[rdV a c bs r,Fj aa ca al dl sz room] h (Cw h0 a c bs dl sz room (stF bs dl room r al)):=by
 refine Ka (vs:=[.slice a bs.length c,.int .i64 r.i,.int .i64 r.k,.slice aa al.length ca,.int .i64 dl,.int .i64 sz,.int .i64 room]) ⟨rfl,rfl,rfl,rfl,rfl,rfl,rfl,trivial⟩ (hi.sub s) ?_;simp only[Fa,Tr.wp,z8,Ex.ev,coerce,toInt_int,za,zd,zi,ze,xu,kp,zB,arith,Cst.val,SV.den,zq,zK,zz,zm,zl,zw,zY,vF,vG,vA,vB,vC,vO,vD,vE,vJ,vI,vK,uB,uF,uE,uJ,vY,vL];have oka:=BK ok;have ea:(Value.agg #[.slice a bs.length c,.int .i64 (if(r.k==0)=true then IntKind.i64.wrap (IntKind.i64.wrap ((IntKind.i64.wrap (r.i+7)).tdiv 8)*8)else r.i),.int .i64 r.k])=rdV a c bs (alg r):=by
  unfold alg;by_cases h0k:r.k=0
  ·have h8:=ok h0k;rw[vP h0k,vP (by simpa using h0k),i64_in (r.i+7) (by omega),uL (by omega),i64_in ((r.i+7)/8) (by omega),i64_in _ (by omega),h0k];rfl
  ·rw[vM h0k,vM (by simpa using h0k)];rfl
 rw[ea];have n16:=yl (bs:=bs) (n:=16) (r:=alg r);have q16:(2:Int)^16=65536:=by decide
 refine(yA (hi.sub s) (hx.sub s) L (alg r) oka 16).mono ?_;rintro _ h1 ⟨rfl,rfl⟩;refine⟨_,_,_,_,_,_,rfl,?_⟩;refine(yA (hi.sub s) (hx.sub s) L (tk bs 16 (alg r)).1 (yp oka) 16).mono ?_;rintro _ h1 ⟨rfl,rfl⟩;refine⟨_,_,_,_,_,_,rfl,?_⟩;have w1:IntKind.i64.wrap (65535-(tk bs 16 (alg r)).2)=65535-(tk bs 16 (alg r)).2:=i64_in _ (by omega);rw[w1];refine(xB (hi.sub s) a c bs (tk bs 16 (tk bs 16 (alg r)).1).1 _).mono ?_;rintro _ h1 ⟨rfl,rfl⟩;refine⟨_,_,_,_,_,rfl,?_⟩;have okR3:okR bs (stR bs r):=jU (yp (yp oka));have eR:bd ((tk bs 16 (tk bs 16 (alg r)).1).2 != 65535-(tk bs 16 (alg r)).2) (tk bs 16 (tk bs 16 (alg r)).1).1=stR bs r:=rfl;obtain⟨n,hn⟩:∃n:Nat,n=(stN bs r).toNat:=⟨_,rfl⟩;have en:(tk bs 16 (alg r)).2=(n:Int):=by rw[hn];unfold stN;omega
 have hnl:n<65536:=by omega
 rw[eR,en];refine⟨fun us h'=>∃(j:Nat) (z:Int) (r':Rd) (al':List Int) (a':Option Addr) (c':Nat),us=[.int .i64 z,.int .i64 j,.slice a bs.length c,.int .i64 r'.i,.int .i64 r'.k,.slice a' al'.length c',.int .i64 dl,.int .i64 sz,.int .i64 room]/\j<=n/\okR bs r'/\Part .u8 h' (.slice a' al'.length c') al'/\qaD h0 (.slice a' al'.length c')/\qaB h0 h'/\(dl<=al'.length/\al'.length<=dl+room)/\stF bs dl room r al=stL bs dl room (n-j) r' al',
  fun us _=>n-(toInt (us.getD 1 undef)).toNat,⟨0,0,stR bs r,al,aa,ca,rfl,by omega,okR3,P,N,s,⟨hd,hl⟩,by rw[hn];rfl⟩,?_⟩
 rintro z y a1 l1 c1 i1 k1 a2 l2 c2 x4 x5 x6 h' ⟨j,z',r',al',a',c',hx1,hj,ok',P',N',s',hl',e'⟩;simp only[uQ,uT,pA,pL,uA]at hx1;obtain⟨rfl,rfl,⟨rfl,rfl,rfl⟩,rfl,rfl,⟨rfl,rfl,rfl⟩,rfl,rfl,rfl⟩:=hx1;rw[e'];refine⟨fun hlt=>?_,fun hge=>?_⟩
 ·have hlt:j<n/\r'.k=0:=by simp at hlt;omega
  have n8:=yl (bs:=bs) (n:=8) (r:=r');have q8:(2:Int)^8=256:=by decide
  refine(yA (hi.sub s') (hx.sub s') L r' ok' 8).mono ?_;rintro _ h2 ⟨rfl,rfl⟩;refine⟨_,_,_,_,_,_,rfl,fun b hb=>?_⟩;have wb:IntKind.u8.wrap (tk bs 8 r').2=(tk bs 8 r').2:=by rw[pG];omega
  rw[wb];have sb:qaB h2 (upd h2 b (.cells (ints .u8 [(tk bs 8 r').2]) 5)):=Sub.zx hb;have K:=Ln (d:=[(tk bs 8 r').2]) (ad:=some ⟨b,0,none⟩) (cd:=1) (dl:=dl) (sz:=sz) (room:=room) hi (s'.trans sb) a1 c1 bs (tk bs 8 r').1 (P'.sub sb) N' hl'.1 (by omega) (by omega) zk.new (by simp);refine zb.mono K ?_;rintro _ h4 ⟨a4,c4,rfl,P4,N4,s4⟩;have el:stL bs dl room (n-j) r' al'=stL bs dl room (n-(j+1)) (tell dl room (tk bs 8 r').1 al' [(tk bs 8 r').2]).1 (tell dl room (tk bs 8 r').1 al' [(tk bs 8 r').2]).2:=by
   rw[show n-j=(n-(j+1))+1 by omega,stL,vP hlt.2]
  have wj:IntKind.i64.wrap ((j:Int)+1)=((j+1:Nat):Int):=z9;rw[wj];exact⟨_,_,_,_,_,_,_,_,_,_,_,rfl,⟨j+1,_,_,_,a4,c4,rfl,by omega,Be (yp ok'),P4,N4,s4,Hg hl'.1 hl'.2,el⟩,by simp only[vB,vA,toInt_int,vV];omega⟩
 ·have hge:¬(j<n/\r'.k=0):=by simp at hge;omega
  have el:stL bs dl room (n-j) r' al'=(r',al'):=by
   by_cases hjn:j<n
   ·rw[show n-j=(n-(j+1))+1 by omega,stL,vM (fun h=>hge ⟨hjn,h⟩)]
   ·rw[show n-j=0 by omega,stL]
  rw[el];exact⟨a2,c2,rfl,P',N',s'⟩
end
section
theorem MG:0<=(sy bs cs r).2/\((sy bs cs r).2=0\/(sy bs cs r).2<cs.length):=by
 have hf:=Bd (bs:=bs) (cs:=cs) (i:=r.i.toNat);unfold sy;split
 ·simp only;omega
 ·exact⟨nR _,.inl rfl⟩
theorem DN:(cpD al dist n).length=n:=by simp[cpD]
theorem Rs:cpD al dist (n+1)=cpD al dist n++[al.getD (al.length-dist+n%dist) 0]:=by simp[cpD,mD]
theorem Yp(hi:qaC S h0)(s0:qaB h0 h)(hx:zk h0 .u8 a bs)(L:bs.length<=1048576)(r:Rd)(ok:okR bs r)(P:Part .u8 h (.slice aa al.length ca) al)(N:qaD h0 (.slice aa al.length ca))(hd:dl<=al.length)(hl:al.length<=dl+room)(hdl:dl<=40000)(hr:room<=100000)(hsz:sz<=40000)
  (s:Nat)(hs1:257<=s)(hs2:s<=285){ac:Option Addr}{lc cc:Nat}(C:CodesAt h ac lc cd) :
  zb oPP S Dl #[rdV a c bs r,Fj aa ca al dl sz room,.int .i64 s,.slice ac lc cc] h (Cw h0 a c bs dl sz room (cpF bs cd dl room sz r al s)):=by
 refine Mw (vs:=[.slice a bs.length c,.int .i64 r.i,.int .i64 r.k,.slice aa al.length ca,.int .i64 dl,.int .i64 sz,.int .i64 room,.int .i64 s,.slice ac lc cc]) ⟨rfl,rfl,rfl,rfl,rfl,rfl,rfl,rfl,rfl,trivial⟩ (hi.sub s0) ?_;simp only[HD,Tr.wp,z8,Ex.ev,coerce,toInt_int,za,zd,zi,ze,zj,yg,j7,zB,arith,Cst.val,SV.den,zq,zK,zz,zm,zl,zw,zY,zr,vF,vG,vA,vB,vC,vT,vO,vU,vD,vE,vJ,vI,vK,uB,uF,uE,uA,uJ,vY,vL];have hxh:=hx.sub s0;have hlen:=To ⟨s,by omega⟩ hs1;simp only at hlen;have nn1:=yl (bs:=bs) (n:=(xo s).2) (r:=r);have hp5:(2:Int)^(xo s).2<=32:=by
  rw[yG];exact_mod_cast mQ (uX (by decide) hlen.2.2) (by decide)
 refine(U5 (hi.sub s0) s hs1 hs2).mono ?_;rintro _ hq ⟨rfl,rfl⟩;refine⟨_,_,rfl,?_⟩;refine(yA (hi.sub s0) hxh L r ok (xo s).2).mono ?_;rintro _ hq ⟨rfl,rfl⟩;refine⟨_,_,_,_,_,_,rfl,?_⟩;have ok1:okR bs (cp1 bs r s).1:=yp ok;refine(Oe (hi.sub s0) hxh L (cp1 bs r s).1 ok1 (fun _=>C)).mono ?_;rintro _ hq ⟨rfl,rfl⟩;refine⟨_,_,_,_,_,_,rfl,?_⟩;have ok2:okR bs (cp2 bs cd r s).1:=Cv ok1;have n2:=MG (bs:=bs) (cs:=cd) (r:=(cp1 bs r s).1);refine(xB (hi.sub s0) a c bs (cp2 bs cd r s).1 (decide ((sy bs cd (cp1 bs r s).1).2>29))).mono ?_;rintro _ hq ⟨rfl,rfl⟩;refine⟨_,_,_,_,_,rfl,?_⟩;have e3:bd (decide ((sy bs cd (cp1 bs r s).1).2>29)) (cp2 bs cd r s).1=cp3 bs cd r s:=rfl;rw[e3];have ok3:okR bs (cp3 bs cd r s):=jU ok2;refine⟨fun hne=>?_,fun heq=>?_⟩
 ·have hk:(cp3 bs cd r s).k≠0:=by simpa using hne
  have e:cpF bs cd dl room sz r al s=(cp3 bs cd r s,al):=vP hk;rw[e];exact⟨aa,ca,rfl,P,N,s0⟩
 have hk3:(cp3 bs cd r s).k=0:=by simpa using heq
 have hd29:(cp2 bs cd r s).2<=29:=by
  have:=(GZ.1 (show(bd (decide (29<(cp2 bs cd r s).2)) (cp2 bs cd r s).1).k=0 from hk3)).2;simpa using this
 have hd0:0<=(cp2 bs cd r s).2:=n2.1;obtain⟨d,hdd⟩:=vZ hd0;have ed:(sy bs cd (cp1 bs r s).1).2=(d:Int):=hdd;have hd29':d<=29:=by omega
 rw[ed];have hdis:=Tp ⟨d,by omega⟩;simp only at hdis;refine(Yo (hi.sub s0) d hd29').mono ?_;rintro _ hq ⟨rfl,rfl⟩;refine⟨_,_,rfl,?_⟩;refine(yA (hi.sub s0) hxh L (cp3 bs cd r s) ok3 (xW d).2).mono ?_;rintro _ hq ⟨rfl,rfl⟩;refine⟨_,_,_,_,_,_,rfl,?_⟩;have e4:tk bs (xW d).2 (cp3 bs cd r s)=cp4 bs cd r s:=by unfold cp4;rw[hdd,vV]
 rw[e4];have n4:=yl (bs:=bs) (n:=(xW d).2) (r:=cp3 bs cd r s);rw[e4]at n4;have hp13:(2:Int)^(xW d).2<=8192:=by
  rw[yG];exact_mod_cast mQ (uX (by decide) hdis.2.2) (by decide)
 obtain⟨x4,hx4⟩:=vZ n4.1;obtain⟨x1,hx1⟩:=vZ (show 0<=(cp1 bs r s).2 from nn1.1);have hx1':(tk bs (xo s).2 r).2=(x1:Int):=hx1;have hdist:yW bs cd r s=(xW d).1+x4:=by unfold yW;rw[hdd,vV,hx4,vV]
 have hcl:kR bs r s=(xo s).1+x1:=by unfold kR;rw[hx1,vV]
 rw[hx4,hx1'];have wd:IntKind.i64.wrap (((xW d).1:Int)+(x4:Int))=((yW bs cd r s:Nat):Int):=by rw[hdist,i64_in _ (by omega)];omega
 have wl:IntKind.i64.wrap (((xo s).1:Int)+(x1:Int))=((kR bs r s:Nat):Int):=by rw[hcl,i64_in _ (by omega)];omega
 rw[wd,wl];have hdp:1<=yW bs cd r s/\yW bs cd r s<=40000:=by omega
 have hlp:kR bs r s<=400:=by omega
 have ew:(decide (((yW bs cd r s:Nat):Int)>(al.length:Int))||decide (((yW bs cd r s:Nat):Int)>(sz:Int)))=(decide (al.length<yW bs cd r s)||decide (sz<yW bs cd r s)):=by
  congr 1 <;> (rw[decide_eq_decide];omega)
 rw[ew];refine(xB (hi.sub s0) a c bs (cp4 bs cd r s).1 _).mono ?_;rintro _ hq ⟨rfl,rfl⟩;refine⟨_,_,_,_,_,rfl,?_⟩;have e5:bd (decide (al.length<yW bs cd r s)||decide (sz<yW bs cd r s)) (cp4 bs cd r s).1=cp5 bs cd sz r al s:=rfl;rw[e5];refine⟨fun hne=>?_,fun heq b hb=>?_⟩
 ·have hk:(cp5 bs cd sz r al s).k≠0:=by simpa using hne
  have e:cpF bs cd dl room sz r al s=(cp5 bs cd sz r al s,al):=by unfold cpF;rw[vM (by omega),vP hk]
  rw[e];exact⟨aa,ca,rfl,P,N,s0⟩
 have hk5:(cp5 bs cd sz r al s).k=0:=by simpa using heq
 have hle:yW bs cd r s<=al.length:=by
  have:=(GZ.1 (show(bd (decide (al.length<yW bs cd r s)||decide (sz<yW bs cd r s)) (cp4 bs cd r s).1).k=0 from hk5)).2;simp at this;omega
 have e:cpF bs cd dl room sz r al s=tell dl room (cp5 bs cd sz r al s) al (cpD al (yW bs cd r s) (kR bs r s)):=by unfold cpF;rw[vM (by omega),vM (by omega)]
 rw[e];generalize yW bs cd r s=D at hdp hle ⊢;generalize kR bs r s=M at hlp ⊢;have sb:qaB hq (upd hq b (.cells (ints .u8 []) 5)):=Sub.zx hb;refine⟨fun us h'=>∃(j:Nat) (a':Option Addr) (c':Nat),us=[.slice a' (cpD al D j).length c',.int .i64 j]/\j<=M/\Part .u8 h' (.slice a' (cpD al D j).length c') (cpD al D j)/\qaD hq (.slice a' (cpD al D j).length c')/\qaB hq h',
  fun us _=>M-(toInt (us.getD 1 undef)).toNat,⟨0,some ⟨b,0,none⟩,0,rfl,by omega,(Own.made (k:=.u8) (h:=hq) (b:=b) (T:=5) []).part,New.of hb,sb⟩,?_⟩
 rintro a1 l1 c1 y h' ⟨j,a',c',hx1,hj,P',N',s'⟩;simp only[uQ,uT,pA,pL,uA]at hx1;obtain⟨⟨rfl,rfl,rfl⟩,rfl⟩:=hx1;refine⟨fun hlt=>?_,fun hge=>?_⟩
 ·have hmod:j%D<D:=fV _ (by omega);have wm:(j:Int).tmod (D:Int)=((j%D:Nat):Int):=by rw[uG (by omega)];exact(Int.natCast_emod j D).symm
  have w1:IntKind.i64.wrap ((al.length:Int)-D)=((al.length-D:Nat):Int):=z9;have w2:IntKind.i64.wrap (((al.length-D:Nat):Int)+((j%D:Nat):Int))=((al.length-D+j%D:Nat):Int):=z9;have wj:IntKind.i64.wrap ((j:Int)+1)=((j+1:Nat):Int):=z9;rw[wm,w1,w2,wj];obtain⟨_,_,ei,_,gi⟩:=(P.sub s').ints;cases ei
  have hidx:al.length-D+j%D<al.length:=by omega
  have g? : al[al.length-D+j%D]? = some (al.getD (al.length-D+j%D) 0):=by simp[List.getD,vQ hidx]
  obtain⟨g1,g2⟩:=gi.cell g?;refine⟨by simp;omega,by simpa using g2,by omega,by omega,_,by simp only[vV,pY,add_add,uI];exact g1,fun b' hb'=>?_⟩;have sb':qaB h' (upd h' b' (.cells (ints .u8 [al.getD (al.length-D+j%D) 0]) 5)):=Sub.zx hb';have hcl2:=DN (al:=al) (dist:=D) (n:=j);refine zI (ys:=[al.getD (al.length-D+j%D) 0]) (a:=some ⟨b',0,none⟩) (c:=1) (hi.sub s0) (s'.trans sb') (P'.sub sb') N' zk.new (by rw[hcl2];simp only[uD];omega) fun v5 h5 o5 n5 s5 _ _=>?_
  rw[<-Rs]at o5;obtain⟨a5,c5,rfl,_,_⟩:=o5.ints;simp only[ze,zd,zi];exact⟨⟨j+1,a5,c5,rfl,by omega,o5,n5,s5⟩,by simp only[vB,vA,toInt_int,vV];omega⟩
 ·obtain rfl:j=M:=by omega
  obtain⟨_,_,ei,_,gi⟩:=P'.ints;cases ei
  have K:=Ln (dl:=dl) (sz:=sz) (room:=room) hi (s0.trans s') a c bs (cp5 bs cd sz r al s) (P.sub s') N hd (by omega) (by omega) gi (cd:=c1) (by rw[DN];omega);refine zb.mono K ?_;rintro _ h4 ⟨a4,c4,rfl,P4,N4,s4⟩;exact⟨_,_,_,_,_,_,_,_,_,_,_,rfl,⟨a4,c4,rfl,P4,N4,s4⟩⟩
theorem JE(h:r.k≠0):syF bs cl cd dl room sz f r al=(r,al):=by
 cases f with
 | zero=>rfl
 | succ f=>rw[syF,vM h]
theorem zaf{s:Nat}(h1:dl<=al.length)(h2:al.length<=dl+room):dl<=(cpF bs cd dl room sz r al s).2.length/\(cpF bs cd dl room sz r al s).2.length<=dl+room:=by
 unfold cpF;split
 ·exact⟨h1,h2⟩
 ·split
  ·exact⟨h1,h2⟩
  ·exact Hg h1 h2
theorem Tq(h1:dl<=al.length)(h2:al.length<=dl+room):dl<=(sy1 bs cd dl room sz r al x).2.length/\(sy1 bs cd dl room sz r al x).2.length<=dl+room:=by
 unfold sy1;split
 ·exact Hg h1 h2
 ·split
  ·exact⟨h1,h2⟩
  ·exact zaf h1 h2
def DO(h:qaA)(v:Value):qaA:=fun b=>if zf v=some b then none else h b
theorem zbw:qaB (DO h v) h:=fun b o e=>by
 unfold DO at e;split at e
 ·cases e
 ·exact e
theorem zbx:qaD (DO h v) v:=fun b hb=>vP hb
theorem zag(N:qaD h0 v)(s:qaB h0 h):qaB h0 (DO h v):=fun b o e=>by
 unfold DO;rw[vM (fun hb=>by rw[N b hb]at e;cases e)];exact s b o e
theorem Cw.base{F:Rd×List Int}(H:Cw g a c bs dl sz room F v h')(s:qaB h0 g):Cw h0 a c bs dl sz room F v h':=by
 obtain⟨a',c',e,p,n,t⟩:=H;exact⟨a',c',e,p,fun z hz=>zU s (n z hz),s.trans t⟩
theorem CodesAt.same{l c:Nat}(H:CodesAt h a l cs)(hk:∀z,zf (.slice a l c)=some z->h' z=h z):CodesAt h' a l cs:=by
 obtain⟨⟨ps,h1,h2⟩,h3,h4⟩:=H;refine⟨⟨ps,fun i p hp=>?_,h2⟩,h3,h4⟩;obtain⟨ad,rfl,g1,g2⟩:=h1 i p hp;have e:=hk ad.block rfl;have blk:∀n,(ad.add n).block=ad.block:=fun n=>by unfold Addr.add;split <;> rfl
 have hh:∀n,Eng.zg h' (ad.add n)=Eng.zg h (ad.add n):=fun n=>by
  unfold Eng.zg;rw[show h' (ad.add n).block=h (ad.add n).block by rw[blk];exact e]
 exact⟨ad,rfl,(hh _).trans g1,(hh _).trans g2⟩
theorem SF(hi:qaC S h0)(s0:qaB h0 h)(hx:zk h0 .u8 a bs)(L:bs.length<=1048576)(r:Rd)(ok:okR bs r)(P:Part .u8 h (.slice aa al.length ca) al)(N:qaD h0 (.slice aa al.length ca))(hd:dl<=al.length)(hl:al.length<=dl+room)(hdl:dl<=40000)(hr:room<=100000)(hsz:sz<=40000)
  {u w:Value}(O1:tI.O h u xs)(O2:tI.O h w ys)(L1:IV xs)(L2:IV ys)(hg1:¬(zu xs=0\/zu xs=2))(hg2:¬(zu ys=0\/zu ys=2))(F0:Nat)(hF0:8*bs.length+1<=F0) :
  zb oPP S AT #[rdV a c bs r,Fj aa ca al dl sz room,u,w] h (Cw h0 a c bs dl sz room (syF bs (zn xs) (zn ys) dl room sz F0 r al)):=by
 obtain⟨a1,c1,rfl,_,_⟩:=Part.ints O1;obtain⟨a2,c2,rfl,_,_⟩:=Part.ints O2;refine IC (vs:=[.slice a bs.length c,.int .i64 r.i,.int .i64 r.k,.slice aa al.length ca,.int .i64 dl,.int .i64 sz,.int .i64 room,.slice a1 xs.length c1,.slice a2 ys.length c2]) ⟨rfl,rfl,rfl,rfl,rfl,rfl,rfl,rfl,rfl,trivial⟩ (hi.sub s0) ?_;simp only[Eo,Tr.wp,z8,Ex.ev,coerce,toInt_int,za,zd,zi,ze,j7,zB,Cst.val,SV.den,zq,zK,zz,zm,zl,zw,zY,vF,vG,vA,vB,vC,vT,vO,vU,vD,vE,vJ,vI,vK,uB,uF,uE,uJ,vY,vL];refine(qU (hi.sub s0) O1 L1).mono ?_;rintro v3 h3 ⟨OC,NC,s3⟩;obtain⟨a3,c3,rfl,C1⟩:=Li OC hg1;have el1:(yH xs).length=xs.length:=by simp only[yH,vM hg1];exact jx
 refine⟨_,_,_,rfl,?_⟩;refine(qU (hi.sub (s0.trans s3)) (Ty.Cd O2 s3) L2).mono ?_;rintro v4 h4 ⟨OC2,NC2,s4⟩;obtain⟨a4,c4,rfl,C2⟩:=Li OC2 hg2;refine⟨_,_,_,rfl,?_⟩;have s34:=s3.trans s4;have C1':=C1.sub s4;have P4:=P.sub s34;obtain⟨g,hg⟩:∃g,g=DO h4 (.slice aa al.length ca):=⟨_,rfl⟩;have sg:qaB h0 g:=hg▸zag N (s0.trans s34);have g4:qaB g h4:=hg▸zbw;have Ng:qaD g (.slice aa al.length ca):=hg▸zbx;have Cg1:CodesAt g a3 xs.length (zn xs):=by
  rw[hg];refine C1'.same (c:=c3) fun z hz=>vM fun hz2=>?_
  exact tB.Oheld P (show tB.B _ z from hz2) (NC z (by rw[show CO.B (.slice a3 xs.length c3) z=(zf (.slice a3 xs.length c3)=some z) from rfl];exact hz))
 have Cg2:CodesAt g a4 ys.length (zn ys):=by
  rw[hg];refine C2.same (c:=c4) fun z hz=>vM fun hz2=>?_
  exact tB.Oheld (P.sub s3) (show tB.B _ z from hz2) (NC2 z (by rw[show CO.B (.slice a4 ys.length c4) z=(zf (.slice a4 ys.length c4)=some z) from rfl];exact hz))
 have hi0:=hi;have hx0:=hx;replace hi:=hi0.sub sg;replace hx:=hx0.sub sg;refine⟨fun us h'=>∃(r':Rd) (al':List Int) (a':Option Addr) (c' f:Nat),us=[.slice a bs.length c,.int .i64 r'.i,.int .i64 r'.k,.slice a' al'.length c',.int .i64 dl,.int .i64 sz,.int .i64 room]/\okR bs r'/\Part .u8 h' (.slice a' al'.length c') al'/\qaD g (.slice a' al'.length c')/\qaB g h'/\(dl<=al'.length/\al'.length<=dl+room)/\(r'.k=0->8*(bs.length:Int)+1<=r'.i+f)/\syF bs (zn xs) (zn ys) dl room sz F0 r al=syF bs (zn xs) (zn ys) dl room sz f r' al',
  fun us _=>if toInt (us.getD 2 undef)=0 then(8*(bs.length:Int)+1-toInt (us.getD 1 undef)).toNat+1 else 0,⟨r,al,aa,ca,F0,rfl,ok,P4,Ng,g4,⟨hd,hl⟩,fun hk=>by have:=ok hk;omega,rfl⟩,?_⟩
 rintro b1 m1 d1 i1 k1 b2 m2 d2 x4 x5 x6 h' ⟨r',al',a',c',f,hx1,ok',P',N',s',hl',hf,e'⟩;simp only[uQ,uT,pA,pL,uA]at hx1;obtain⟨⟨rfl,rfl,rfl⟩,rfl,rfl,⟨rfl,rfl,rfl⟩,rfl,rfl,rfl⟩:=hx1;rw[e'];refine⟨fun hk=>?_,fun hk=>?_⟩
 ·have hk:r'.k=0:=uP.1 hk;have hpos:=ok' hk;obtain⟨f',rfl⟩:∃f',f=f'+1:=⟨f-1,by have:=hf hk;omega⟩;have est:syF bs (zn xs) (zn ys) dl room sz (f'+1) r' al'=(if(sy bs (zn xs) r').1.k≠0\/(sy bs (zn xs) r').2=256 then((sy bs (zn xs) r').1,al')else syF bs (zn xs) (zn ys) dl room sz f' (sy1 bs (zn ys) dl room sz (sy bs (zn xs) r').1 al' (sy bs (zn xs) r').2).1 (sy1 bs (zn ys) dl room sz (sy bs (zn xs) r').1 al' (sy bs (zn xs) r').2).2):=by rw[syF,vP hk]
  refine(Oe (hi.sub s') (hx.sub s') L r' ok' (fun _=>Cg1.sub s')).mono ?_;rintro _ h2 ⟨rfl,rfl⟩;refine⟨_,_,_,_,_,_,rfl,?_⟩;have oks:okR bs (sy bs (zn xs) r').1:=Cv ok';have lts:(sy bs (zn xs) r').1.k=0->r'.k=0/\r'.i+1<=(sy bs (zn xs) r').1.i:=U4;have nns:=MG (bs:=bs) (cs:=zn xs) (r:=r');rw[xA]at nns;generalize sy bs (zn xs) r'=q at est oks lts nns ⊢;obtain⟨r1,x⟩:=q;simp only at est oks lts nns ⊢;refine⟨fun hstop=>?_,fun hgo=>?_⟩
  ·have hst:r1.k≠0\/x=256:=by simpa using hstop
   rw[est,vP hst];exact Cw.base ⟨b2,d2,rfl,P',N',s'⟩ sg
  ·have hst:¬(r1.k≠0\/x=256):=by simpa using hgo
   rw[vM hst]at est;have hk1:r1.k=0:=by omega
   have hx256:x≠256:=by omega
   have fin:∀(h'':qaA) (a5:Option Addr) (c5:Nat),Part .u8 h'' (.slice a5 (sy1 bs (zn ys) dl room sz r1 al' x).2.length c5) (sy1 bs (zn ys) dl room sz r1 al' x).2->qaD g (.slice a5 (sy1 bs (zn ys) dl room sz r1 al' x).2.length c5)->qaB g h'' ->
     (∃(r2:Rd) (al2:List Int) (a':Option Addr) (c' f:Nat),[Value.slice b1 bs.length d1,.int .i64 (sy1 bs (zn ys) dl room sz r1 al' x).1.i,.int .i64 (sy1 bs (zn ys) dl room sz r1 al' x).1.k,.slice a5 (sy1 bs (zn ys) dl room sz r1 al' x).2.length c5,.int .i64 dl,.int .i64 sz,.int .i64 room]=[.slice b1 bs.length d1,.int .i64 r2.i,.int .i64 r2.k,.slice a' al2.length c',.int .i64 dl,.int .i64 sz,.int .i64 room]/\okR bs r2/\Part .u8 h'' (.slice a' al2.length c') al2/\qaD g (.slice a' al2.length c')/\qaB g h''/\(dl<=al2.length/\al2.length<=dl+room)/\(r2.k=0->8*(bs.length:Int)+1<=r2.i+f)/\syF bs (zn xs) (zn ys) dl room sz (f'+1) r' al'=syF bs (zn xs) (zn ys) dl room sz f r2 al2) /\
     (if(sy1 bs (zn ys) dl room sz r1 al' x).1.k=0 then(8*(bs.length:Int)+1-(sy1 bs (zn ys) dl room sz r1 al' x).1.i).toNat+1 else 0)<(if r'.k=0 then(8*(bs.length:Int)+1-r'.i).toNat+1 else 0):=by
    intro h'' a5 c5 Q1 Q2 Q3;have hle:le2 r1 (sy1 bs (zn ys) dl room sz r1 al' x).1:=Wu;have hl1:=(lts hk1).2;refine⟨⟨_,_,a5,c5,f',rfl,Wv oks,Q1,Q2,Q3,Tq hl'.1 hl'.2,fun h=>?_,est⟩,?_⟩
    ·have:=(hle h).2;have:=hf hk;push_cast at this;omega
    ·rw[vP hk];split
     ·rename_i h;have:=(hle h).2;omega
     ·omega
   refine⟨fun hlt b hb=>?_,fun hge=>⟨fun hgt=>?_,fun hle=>?_⟩⟩
   ·have e1:sy1 bs (zn ys) dl room sz r1 al' x=tell dl room r1 al' [x]:=vP hlt;have wb:IntKind.u8.wrap x=x:=by rw[pG];omega
    rw[wb];have sb:qaB h2 (upd h2 b (.cells (ints .u8 [x]) 5)):=Sub.zx hb;have K:=Ln (d:=[x]) (ad:=some ⟨b,0,none⟩) (cd:=1) (dl:=dl) (sz:=sz) (room:=room) hi (s'.trans sb) b1 d1 bs r1 (P'.sub sb) N' hl'.1 (by omega) (by omega) zk.new (by simp);rw[<-e1]at K;refine zb.mono K ?_;rintro _ h4 ⟨a4,c4,rfl,P4,N4,s4⟩;exact⟨_,_,_,_,_,_,_,_,_,_,_,rfl,fun _=>fin h4 a4 c4 P4 N4 s4⟩
   ·have e1:sy1 bs (zn ys) dl room sz r1 al' x=(bd true r1,al'):=by unfold sy1;rw[vM (by omega),vP (by omega)]
    rw[e1]at fin;refine(xB (hi.sub s') b1 d1 bs r1 true).mono ?_;rintro _ h3 ⟨rfl,rfl⟩;exact⟨_,_,_,_,_,rfl,fun _ _=>fin _ b2 d2 P' N' s'⟩
   ·have e1:sy1 bs (zn ys) dl room sz r1 al' x=cpF bs (zn ys) dl room sz r1 al' x.toNat:=by unfold sy1;rw[vM (by omega),vM (by omega)]
    obtain⟨m,rfl⟩:=vZ (show 0<=x by omega);have K:=Yp (c:=d1) (dl:=dl) (sz:=sz) (room:=room) hi s' hx L r1 oks P' N' hl'.1 hl'.2 hdl hr hsz m (by omega) (by omega) (cc:=c4) (Cg2.sub s');rw[show m=((m:Int)).toNat from rfl,<-e1]at K;refine zb.mono K ?_;rintro _ h4 ⟨a4,c4,rfl,P4,N4,s4⟩;exact⟨_,_,_,_,_,_,_,_,_,_,_,rfl,fun _ _=>fin h4 a4 c4 P4 N4 s4⟩
 ·have hk:r'.k≠0:=by simpa using hk
  rw[JE hk];exact Cw.base ⟨b2,d2,rfl,P',N',s'⟩ sg
end
section
theorem Ts{bs:List Int}{cs:List (Nat×Nat)}{tot:Nat}:∀ {n:Nat} {r:Rd} {all:List Int},tot-all.length<=n->all.length<=tot->(lg bs cs tot r all).1.k=0->(lg bs cs tot r all).2.length<=tot
 | 0,r,all,hn,hl,H=>by rw[j5 (fun e=>by omega)];exact hl
 | n+1,r,all,hn,hl,H=>by
  by_cases h:r.k=0/\all.length<tot
  ·rw[DL h]at H ⊢;by_cases hk:(lg1 bs cs tot r all).1.k=0
   ·have:=(Ck (bs:=bs) (cs:=cs) (tot:=tot) (r:=r) (all:=all)).2.2 hk;exact Ts (n:=n) (by omega) this.2 H
   ·rw[j5 (fun e=>hk e.1)]at H;exact absurd H hk
  ·rw[j5 h];exact hl
theorem MI:(ym bs r).2.1.length<=1000/\(ym bs r).2.2.length<=1000:=by
 unfold ym;split
 ·rename_i hk;have n1:=yl (bs:=bs) (n:=5) (r:=r);have n2:=yl (bs:=bs) (n:=5) (r:=xV bs r);have q5:(2:Int)^5=32:=by decide
  have h1:Dr bs r<=288:=by unfold Dr;omega
  have h2:J8 bs r<=32:=by unfold J8;omega
  have h3:(qk bs r).2.length<=Dr bs r+J8 bs r:=Ts (uN _) (by simp) hk;simp only[pW,pM];omega
 ·simp
theorem Fl(ok:okR bs r):okR bs (ym bs r).1:=by
 have:=(J9 ok).2.2.2.2;unfold ym;split
 ·exact jU this
 ·exact this
section
theorem Og:∀ {n:Nat} {r:Rd} {al:List Int},dl<=al.length->al.length<=dl+room->dl<=(stL bs dl room n r al).2.length/\(stL bs dl room n r al).2.length<=dl+room
 | 0,r,al,h1,h2=>⟨h1,h2⟩
 | n+1,r,al,h1,h2=>by
  unfold stL;split
  ·have:=Hg (r:=(tk bs 8 r).1) (d:=[(tk bs 8 r).2]) h1 h2;exact Og this.1 this.2
  ·exact⟨h1,h2⟩
theorem Oh{cl cd:List (Nat×Nat)}:∀ {f:Nat} {r:Rd} {al:List Int},dl<=al.length->al.length<=dl+room->dl<=(syF bs cl cd dl room sz f r al).2.length/\(syF bs cl cd dl room sz f r al).2.length<=dl+room
 | 0,r,al,h1,h2=>⟨h1,h2⟩
 | f+1,r,al,h1,h2=>by
  unfold syF;split
  ·split
   ·exact⟨h1,h2⟩
   ·have:=Tq (bs:=bs) (cd:=cd) (sz:=sz) (r:=(sy bs cl r).1) (x:=(sy bs cl r).2) h1 h2;exact Oh this.1 this.2
  ·exact⟨h1,h2⟩
theorem Rt:∀ {f:Nat} {r:Rd} {al:List Int},le2 r (syF bs cl cd dl room sz f r al).1
 | 0,r,al=>le2.refl
 | f+1,r,al=>by
  unfold syF;split
  ·split
   ·exact JD
   ·exact(JD.trans Wu).trans Rt
  ·exact le2.refl
theorem Ru:∀ {f:Nat} {r:Rd} {al:List Int},okR bs r->okR bs (syF bs cl cd dl room sz f r al).1
 | 0,r,al,H=>H
 | f+1,r,al,H=>by
  unfold syF;split
  ·split
   ·exact Cv H
   ·exact Ru (Wv (Cv H))
  ·exact H
theorem Za:∀ {k:Nat},le2 r (sm bs r k).1
 | 0=>le2.refl
 | k+1=>Za.trans y7
theorem zcD:le2 r (rp bs r all x).1:=by
 unfold rp;split
 ·exact xP.trans y7
 ·split
  ·exact y7
  ·split
   ·exact y7
   ·exact le2.refl
theorem Wy{tot:Nat}:le2 r (lg1 bs cs tot r all).1:=by
 unfold lg1;split
 ·exact(JD.trans zcD).trans xP
 ·exact JD
theorem Zb{cs:List (Nat×Nat)}{tot:Nat}:∀ {n:Nat} {r:Rd} {all:List Int},tot-all.length<=n->le2 r (lg bs cs tot r all).1
 | 0,r,all,hn=>by rw[j5 (fun e=>by omega)];exact le2.refl
 | n+1,r,all,hn=>by
  by_cases h:r.k=0/\all.length<tot
  ·rw[DL h];by_cases hk:(lg1 bs cs tot r all).1.k=0
   ·have:=(Ck (bs:=bs) (cs:=cs) (tot:=tot) (r:=r) (all:=all)).2.2 hk;exact Wy.trans (Zb (n:=n) (by omega))
   ·rw[j5 (fun e=>hk e.1)];exact Wy
  ·rw[j5 h];exact le2.refl
theorem Lo:le2 r (ym bs r).1:=by
 have h0:le2 r (xV bs r):=y7.trans xP;have h1:le2 r (kQ bs r):=h0.trans (y7.trans xP);have h2:le2 r (xn bs r).1:=h1.trans (y7.trans Za);have h3:le2 r (Ha bs r):=h2.trans xP;have h4:le2 r (qk bs r).1:=h3.trans (Zb (uN _));unfold ym;split
 ·exact h4.trans xP
 ·exact h4
theorem MJ(h:(ym bs r).1.k=0):¬(zu (ym bs r).2.1=0\/zu (ym bs r).2.1=2)/\¬(zu (ym bs r).2.2=0\/zu (ym bs r).2.2=2):=by
 unfold ym at h ⊢;split
 ·rename_i hk;rw[vP hk]at h;have hb:=(GZ.1 h).2;simp only;unfold Hb at hb;simp only[lG,Bool.not_eq_false',pJ,uP]at hb;omega
 ·rename_i hk;rw[vM hk]at h;exact absurd h hk
end
def qe:List Int:=List.replicate 32 5
theorem Jc:zu qe=1:=by decide +kernel
def bk1(bs:List Int)(r:Rd):Rd×Int:=tk bs 1 r
def bk2(bs:List Int)(r:Rd):Rd×Int:=tk bs 2 (bk1 bs r).1
def bk3(bs:List Int)(r:Rd):Rd:=bd ((bk2 bs r).2==3) (bk2 bs r).1
def blk(bs:List Int)(dl room sz F:Nat)(r:Rd)(al:List Int):Rd×List Int:=
 if(bk3 bs r).k≠0 then(bk3 bs r,al)
 else if(bk2 bs r).2=0 then stF bs dl room (bk3 bs r) al
 else if(bk2 bs r).2=1 then syF bs (zn yB) (zn qe) dl room sz F (bk3 bs r) al
 else if(ym bs (bk3 bs r)).1.k≠0 then((ym bs (bk3 bs r)).1,al)
 else syF bs (zn (ym bs (bk3 bs r)).2.1) (zn (ym bs (bk3 bs r)).2.2) dl room sz F (ym bs (bk3 bs r)).1 al
def blF(bs:List Int)(dl room sz F:Nat):Nat->Rd->List Int->Rd×List Int
 | 0,r,al=>(r,al)
 | f+1,r,al=>if r.k=0 then(if(bk1 bs r).2≠0 then blk bs dl room sz F r al else blF bs dl room sz F f (blk bs dl room sz F r al).1 (blk bs dl room sz F r al).2)else(r,al)
section
theorem CX(h:(tk bs n r).1.k=0):(tk bs n r).1.i=r.i+n:=by
 have h0:=BI h;unfold tk at h ⊢;rw[vP h0]at h ⊢;split
 ·rename_i hgt;rw[vP hgt]at h;cases h
 ·rfl
theorem MK(h:(bk3 bs r).k=0):r.k=0/\r.i+3<=(bk3 bs r).i:=by
 have h3:=xP (w:=(bk2 bs r).2==3) (r:=(bk2 bs r).1) h;have h2:=CX (bs:=bs) (n:=2) (r:=(bk1 bs r).1) h3.1;have h1:=BI (bs:=bs) (n:=2) (r:=(bk1 bs r).1) h3.1;have h0:=CX (bs:=bs) (n:=1) (r:=r) h1;refine⟨BI h1,?_⟩;have e1:(bk2 bs r).1.i=(bk1 bs r).1.i+2:=h2;have e0:(bk1 bs r).1.i=r.i+1:=h0;have e3:(bk2 bs r).1.i<=(bk3 bs r).i:=h3.2;omega
theorem zby:le2 r (stF bs dl room r al).1:=(((Rr.trans y7).trans y7).trans xP).trans Wx
theorem Wz(H:okR bs r):okR bs (stF bs dl room r al).1:=Ww (jU (yp (yp (BK H))))
theorem Rv:le2 (bk3 bs r) (blk bs dl room sz F r al).1:=by
 unfold blk;split
 ·exact le2.refl
 ·split
  ·exact zby
  ·split
   ·exact Rt
   ·split
    ·exact Lo
    ·exact Lo.trans Rt
theorem W0(H:okR bs r):okR bs (bk3 bs r):=jU (yp (yp H))
theorem Rw(H:okR bs r):okR bs (blk bs dl room sz F r al).1:=by
 have h3:=W0 H;unfold blk;split
 ·exact h3
 ·split
  ·exact Wz h3
  ·split
   ·exact Ru h3
   ·split
    ·exact Fl h3
    ·exact Ru (Fl h3)
theorem Tt(h1:dl<=al.length)(h2:al.length<=dl+room):dl<=(blk bs dl room sz F r al).2.length/\(blk bs dl room sz F r al).2.length<=dl+room:=by
 unfold blk;split
 ·exact⟨h1,h2⟩
 ·split
  ·exact Og h1 h2
  ·split
   ·exact Oh h1 h2
   ·split
    ·exact⟨h1,h2⟩
    ·exact Oh h1 h2
theorem Oi(h:r.k≠0):blF bs dl room sz F f r al=(r,al):=by
 cases f with
 | zero=>rfl
 | succ f=>rw[blF,vM h]
end
end
section
section
theorem Zc(hi:qaC S h0)(s0:qaB h0 h)(hx:zk h0 .u8 a bs)(L:bs.length<=1048576)(r:Rd)(ok:okR bs r)(P:Part .u8 h (.slice aa al.length ca) al)(N:qaD h0 (.slice aa al.length ca))(hd:dl<=al.length)(hl:al.length<=dl+room)(hdl:dl<=40000)(hr:room<=100000)(hsz:sz<=40000)
  (F:Nat)(hF:8*bs.length+1<=F){l1 c1 l2 c2:Nat}(hO:r.k=0->Part .i64 h (.slice a1 l1 c1) xs/\Part .i64 h (.slice a2 l2 c2) ys/\IV xs/\IV ys/\¬(zu xs=0\/zu xs=2)/\¬(zu ys=0\/zu ys=2))(K0 K1 K2:Kt)
  (hK:∀a' c' h',Part .u8 h' (.slice a' (if r.k=0 then syF bs (zn xs) (zn ys) dl room sz F r al else(r,al)).2.length c') (if r.k=0 then syF bs (zn xs) (zn ys) dl room sz F r al else(r,al)).2->qaD h0 (.slice a' (if r.k=0 then syF bs (zn xs) (zn ys) dl room sz F r al else(r,al)).2.length c')->qaB h0 h' ->
   K2 [.slice a bs.length c,.int .i64 (if r.k=0 then syF bs (zn xs) (zn ys) dl room sz F r al else(r,al)).1.i,.int .i64 (if r.k=0 then syF bs (zn xs) (zn ys) dl room sz F r al else(r,al)).1.k,.slice a' (if r.k=0 then syF bs (zn xs) (zn ys) dl room sz F r al else(r,al)).2.length c',.int .i64 dl,.int .i64 sz,.int .i64 room] h')
  {Q:Value->qaA->Prop}(e0 e1 e2 e3 e4 e5 e6 e7 e8 e9 e10 e11 e12 e13 e14 e15 e16 e17 e18 e19 e20 e21 e22 e23 e24 e25 e26 e27 e28 e29 e34 e35:Value) :
  bl4.wp oPP S yk Q [e0,e1,e2,e3,e4,e5,e6,e7,e8,e9,e10,e11,e12,e13,e14,e15,e16,e17,e18,e19,e20,e21,e22,e23,e24,e25,e26,e27,e28,e29,.slice aa al.length ca,.int .i64 dl,.int .i64 sz,.int .i64 room,e34,e35,.slice a1 l1 c1,.slice a2 l2 c2,.slice a bs.length c,.int .i64 r.i,.int .i64 r.k] h [K0,K1,K2]:=by
 simp only[bl4,Tr.wp,z8,Ex.ev,coerce,toInt_int,za,zd,zi,ze,zB,Cst.val,SV.den,zq,zK,zz,zm,zl,zw,vF,vG,vA,vB,vC,vT,vD,vE,vJ,vI,vK,uB,uF,uE,uJ];refine⟨fun hk=>?_,fun hk _=>?_⟩
 ·have hk:r.k=0:=uP.1 hk;obtain⟨O1,O2,L1,L2,g1,g2⟩:=hO hk;simp only[vP hk]at hK;refine zb.mono (SF hi s0 hx L r ok P N hd hl hdl hr hsz O1 O2 L1 L2 g1 g2 F hF (c:=c)) ?_;rintro _ h4 ⟨a4,c4,rfl,P4,N4,s4⟩;exact⟨_,_,_,_,_,_,_,_,_,_,_,rfl,fun _=>hK a4 c4 h4 P4 N4 s4⟩
 ·have hk:r.k≠0:=by simpa using hk
  simp only[vM hk]at hK;exact hK aa ca h P N s0
def Dt(bs:List Int)(dl room sz F:Nat)(r:Rd)(kd:Int)(al:List Int):Rd×List Int:=
 if r.k=0/\0<kd then
  (if kd=2 then(if(ym bs r).1.k=0 then syF bs (zn (ym bs r).2.1) (zn (ym bs r).2.2) dl room sz F (ym bs r).1 al else((ym bs r).1,al))else(if r.k=0 then syF bs (zn yB) (zn qe) dl room sz F r al else(r,al)))
 else(r,al)
theorem Zd(hi:qaC S h0)(s0:qaB h0 h)(hx:zk h0 .u8 a bs)(L:bs.length<=1048576)(r:Rd)(ok:okR bs r)(P:Part .u8 h (.slice aa al.length ca) al)(N:qaD h0 (.slice aa al.length ca))(hd:dl<=al.length)(hl:al.length<=dl+room)(hdl:dl<=40000)(hr:room<=100000)(hsz:sz<=40000)
  (F:Nat)(hF:8*bs.length+1<=F)(kd ls:Int)(K0 K1:Kt)
  (hK:∀a' c' h',Part .u8 h' (.slice a' (Dt bs dl room sz F r kd al).2.length c') (Dt bs dl room sz F r kd al).2->qaD h0 (.slice a' (Dt bs dl room sz F r kd al).2.length c')->qaB h0 h' ->
   K0 [.int .i64 ls,.int .i64 kd,.slice a bs.length c,.int .i64 (Dt bs dl room sz F r kd al).1.i,.int .i64 (Dt bs dl room sz F r kd al).1.k,.slice a' (Dt bs dl room sz F r kd al).2.length c',.int .i64 dl,.int .i64 sz,.int .i64 room] h')
  {Q:Value->qaA->Prop}(e0 e1 e2 e3 e4 e5 e6 e7 e8 e9 e10 e11 e12 e13 e14 e15 e16 e17 e18 e20 e21 e22 e24 e25 e26:Value) :
  bl2.wp oPP S yk Q [e0,e1,e2,e3,e4,e5,e6,e7,e8,e9,e10,e11,e12,e13,e14,e15,e16,e17,e18,.int .i64 ls,e20,e21,e22,.int .i64 kd,e24,e25,e26,.slice a bs.length c,.int .i64 r.i,.int .i64 r.k,.slice aa al.length ca,.int .i64 dl,.int .i64 sz,.int .i64 room] h [K0,K1]:=by
 simp only[bl2,Tr.wp,z8,Ex.ev,coerce,toInt_int,za,zd,zi,ze,xu,zB,Cst.val,SV.den,zq,zK,zz,zm,zl,zw,vF,vG,vA,vB,vC,vT,vD,vE,vJ,vI,vK,uB,uF,uE,uJ,vY,vL];refine⟨fun hc=>?_,fun hc _=>?_⟩
 ·have hc:r.k=0/\0<kd:=by simpa using hc
  have eF:Dt bs dl room sz F r kd al=(if kd=2 then(if(ym bs r).1.k=0 then syF bs (zn (ym bs r).2.1) (zn (ym bs r).2.2) dl room sz F (ym bs r).1 al else((ym bs r).1,al))else(if r.k=0 then syF bs (zn yB) (zn qe) dl room sz F r al else(r,al))):=vP hc;rw[eF]at hK;refine(Pk (hi.sub s0)).mono ?_;rintro _ h1 ⟨a1,c1,a2,c2,rfl,P1,P2,N1,N2,s1⟩;refine⟨_,_,_,_,_,_,rfl,fun h2=>?_,fun h2 _=>?_⟩
  ·have h2:kd=2:=uP.1 h2;rw[vP h2]at hK;have okF:=Fl ok;have Cm:=MJ (bs:=bs) (r:=r);obtain⟨lenA,xo⟩:=MI (bs:=bs) (r:=r);refine(Yd (hi.sub (s0.trans s1)) (hx.sub (s0.trans s1)) L r ok).mono ?_;generalize ym bs r=G at hK okF Cm lenA xo ⊢;rintro _ h3 ⟨u,w,rfl,hP,⟨a3,l3,c3,a4,l4,c4,rfl,rfl⟩,s3⟩;refine⟨_,_,_,_,_,_,_,_,_,_,_,rfl,fun _=>?_⟩;exact Zc (c:=c) hi (s0.trans (s1.trans s3)) hx L G.1 okF (P.sub (s1.trans s3)) N hd hl hdl hr hsz F hF (xs:=G.2.1) (ys:=G.2.2) (fun hk=>by
    obtain⟨p1,p2,_,_⟩:=hP hk
    obtain⟨g1,g2⟩:=Cm hk
    exact⟨p1,p2,mQ lenA (by decide),mQ xo (by decide),g1,g2⟩) _ _ _ (fun a' c' h' q1 q2 q3=>fun _=>hK a' c' h' q1 q2 q3) _ _ _ _ _ _ _ _ _ _ _ _ _ _ _ _ _ _ _ _ _ _ _ _ _ _ _ _ _ _ _ _
  ·have h2:kd≠2:=by simpa using h2
   rw[vM h2]at hK;exact Zc (c:=c) hi (s0.trans s1) hx L r ok (P.sub s1) N hd hl hdl hr hsz F hF (xs:=yB) (ys:=qe) (fun hk=>
    ⟨P1,P2,Hc,by show(List.replicate 32 (5:Int)).length<=1048576;simp,Ai,by rw[Jc];decide⟩) _ _ _ (fun a' c' h' q1 q2 q3=>fun _=>hK a' c' h' q1 q2 q3) _ _ _ _ _ _ _ _ _ _ _ _ _ _ _ _ _ _ _ _ _ _ _ _ _ _ _ _ _ _ _ _
 ·have hc:¬(r.k=0/\0<kd):=by
   intro h;rw[h.1]at hc;simp[h.2]at hc
  have eF:Dt bs dl room sz F r kd al=(r,al):=vM hc;rw[eF]at hK;exact hK aa ca h P N s0
def U7(bs:List Int)(dl room:Nat)(r:Rd)(kd:Int)(al:List Int):Rd×List Int:=if r.k=0/\kd=0 then stF bs dl room r al else(r,al)
theorem zbz:blk bs dl room sz F r al=Dt bs dl room sz F (U7 bs dl room (bk3 bs r) (bk2 bs r).2 al).1 (bk2 bs r).2 (U7 bs dl room (bk3 bs r) (bk2 bs r).2 al).2:=by
 have n2:=yl (bs:=bs) (n:=2) (r:=(bk1 bs r).1);have q2:(2:Int)^2=4:=by decide
 have e2:(tk bs 2 (bk1 bs r).1).2=(bk2 bs r).2:=rfl;rw[e2,q2]at n2;have h3:(bk3 bs r).k=0->(bk2 bs r).2≠3:=fun h e=>by
  have:=(GZ.1 (show(bd ((bk2 bs r).2==3) (bk2 bs r).1).k=0 from h)).2;rw[e]at this;cases this
 unfold blk U7;by_cases hk:(bk3 bs r).k=0
 ·have h3:=h3 hk;rw[vM (show ¬(bk3 bs r).k≠0 from fun h=>h hk)];by_cases h0:(bk2 bs r).2=0
  ·rw[vP h0,vP (show(bk3 bs r).k=0/\(bk2 bs r).2=0 from ⟨hk,h0⟩)];unfold Dt;rw[vM (fun h=>by omega)]
  ·rw[vM h0,vM (show ¬((bk3 bs r).k=0/\(bk2 bs r).2=0) from fun h=>h0 h.2)];unfold Dt;simp only;rw[vP (show(bk3 bs r).k=0/\0<(bk2 bs r).2 from ⟨hk,by omega⟩)];by_cases h1:(bk2 bs r).2=1
   ·rw[vP h1,vM (show ¬(bk2 bs r).2=2 by omega),vP hk]
   ·rw[vM h1,vP (show(bk2 bs r).2=2 by omega)];by_cases hL:(ym bs (bk3 bs r)).1.k=0
    ·rw[vM (show ¬(ym bs (bk3 bs r)).1.k≠0 from fun h=>h hL),vP hL]
    ·rw[vP (show(ym bs (bk3 bs r)).1.k≠0 from hL),vM hL]
 ·rw[vP (show(bk3 bs r).k≠0 from hk),vM (show ¬((bk3 bs r).k=0/\(bk2 bs r).2=0) from fun h=>hk h.1)];unfold Dt;rw[vM (fun h=>hk h.1)]
end
theorem ML(hi:qaC S h0)(s0:qaB h0 h)(hx:zk h0 .u8 a bs)(L:bs.length<=1048576)(r:Rd)(ok:okR bs r)(P:Part .u8 h (.slice aa al.length ca) al)(N:qaD h0 (.slice aa al.length ca))(hd:dl<=al.length)(hl:al.length<=dl+room)(hdl:dl<=40000)(hr:room<=100000)(hsz:sz<=40000)
  (F:Nat)(hF:8*bs.length+1<=F)(F0:Nat)(hF0:8*bs.length+1<=F0) :
  zb oPP S wL #[rdV a c bs r,Fj aa ca al dl sz room] h (Cw h0 a c bs dl sz room (blF bs dl room sz F F0 r al)):=by
 refine JZ (vs:=[.slice a bs.length c,.int .i64 r.i,.int .i64 r.k,.slice aa al.length ca,.int .i64 dl,.int .i64 sz,.int .i64 room]) ⟨rfl,rfl,rfl,rfl,rfl,rfl,rfl,trivial⟩ (hi.sub s0) ?_;simp only[EZ,Tr.wp,z8,Ex.ev,coerce,toInt_int,za,zd,zi,ze,xu,zB,Cst.val,SV.den,zq,zK,zz,zm,zl,zw,zY,vF,vG,vA,vB,vC,vT,vD,vE,vJ,vI,vK,uB,uF,uE,uJ,vY,vL];refine⟨fun us h'=>∃(ls kd:Int) (r':Rd) (al':List Int) (a':Option Addr) (c' f:Nat),us=[.int .i64 ls,.int .i64 kd,.slice a bs.length c,.int .i64 r'.i,.int .i64 r'.k,.slice a' al'.length c',.int .i64 dl,.int .i64 sz,.int .i64 room]/\okR bs r'/\Part .u8 h' (.slice a' al'.length c') al'/\qaD h0 (.slice a' al'.length c')/\qaB h0 h'/\(dl<=al'.length/\al'.length<=dl+room)/\(r'.k=0->ls=0->8*(bs.length:Int)+1<=r'.i+f)/\blF bs dl room sz F F0 r al=(if ls≠0 then(r',al')else blF bs dl room sz F f r' al'),
  fun us _=>if toInt (us.getD 4 undef)=0/\toInt (us.getD 0 undef)=0 then(8*(bs.length:Int)+1-toInt (us.getD 3 undef)).toNat+1 else 0,⟨0,0,r,al,aa,ca,F0,rfl,ok,P,N,s0,⟨hd,hl⟩,fun hk _=>by have:=ok hk;omega,by rw[vM (by simp)]⟩,?_⟩
 rintro x0 x1 b1 m1 d1 i1 k1 b2 m2 d2 x4 x5 x6 h' ⟨ls,kd,r',al',a',c',f,hx1,ok',P',N',s',hl',hf,e'⟩;simp only[uQ,uT,pA,pL,uA]at hx1;obtain⟨rfl,rfl,⟨rfl,rfl,rfl⟩,rfl,rfl,⟨rfl,rfl,rfl⟩,rfl,rfl,rfl⟩:=hx1;rw[e'];refine⟨fun hgo=>?_,fun hend=>?_⟩
 ·have hgo:r'.k=0/\x0=0:=by simpa using hgo
  obtain⟨hk,rfl⟩:=hgo;have hpos:=ok' hk;obtain⟨f',rfl⟩:∃f',f=f'+1:=⟨f-1,by have:=hf hk rfl;omega⟩;have est:(if(0:Int)≠0 then(r',al')else blF bs dl room sz F (f'+1) r' al')=(if(bk1 bs r').2≠0 then blk bs dl room sz F r' al' else blF bs dl room sz F f' (blk bs dl room sz F r' al').1 (blk bs dl room sz F r' al').2):=by rw[vM (by simp),blF,vP hk]
  have n1:=yl (bs:=bs) (n:=1) (r:=r');have n2:=yl (bs:=bs) (n:=2) (r:=(bk1 bs r').1);have q1:(2:Int)^1=2:=by decide
  have q2:(2:Int)^2=4:=by decide
  refine(yA (hi.sub s') (hx.sub s') L r' ok' 1).mono ?_;rintro _ h2 ⟨rfl,rfl⟩;refine⟨_,_,_,_,_,_,rfl,?_⟩;refine(yA (hi.sub s') (hx.sub s') L (bk1 bs r').1 (yp ok') 2).mono ?_;rintro _ h2 ⟨rfl,rfl⟩;refine⟨_,_,_,_,_,_,rfl,?_⟩;refine(xB (hi.sub s') b1 d1 bs (bk2 bs r').1 ((bk2 bs r').2==3)).mono ?_;rintro _ h2 ⟨rfl,rfl⟩;refine⟨_,_,_,_,_,rfl,?_⟩;have e3:bd ((bk2 bs r').2==3) (bk2 bs r').1=bk3 bs r':=rfl;have e2:(tk bs 2 (bk1 bs r').1).2=(bk2 bs r').2:=rfl;rw[e3,e2];have e1:(tk bs 1 r').2=(bk1 bs r').2:=rfl;have ok3:okR bs (bk3 bs r'):=W0 ok';have lt3:(bk3 bs r').k=0->r'.k=0/\r'.i+3<=(bk3 bs r').i:=MK;have fin:∀(h'':qaA) (a5:Option Addr) (c5:Nat),Part .u8 h'' (.slice a5 (blk bs dl room sz F r' al').2.length c5) (blk bs dl room sz F r' al').2->qaD h0 (.slice a5 (blk bs dl room sz F r' al').2.length c5)->qaB h0 h'' ->
    (∃(ls kd:Int) (r2:Rd) (al2:List Int) (a':Option Addr) (c' f:Nat),[Value.int .i64 (bk1 bs r').2,.int .i64 (bk2 bs r').2,.slice b1 bs.length d1,.int .i64 (blk bs dl room sz F r' al').1.i,.int .i64 (blk bs dl room sz F r' al').1.k,.slice a5 (blk bs dl room sz F r' al').2.length c5,.int .i64 dl,.int .i64 sz,.int .i64 room]=[.int .i64 ls,.int .i64 kd,.slice b1 bs.length d1,.int .i64 r2.i,.int .i64 r2.k,.slice a' al2.length c',.int .i64 dl,.int .i64 sz,.int .i64 room]/\okR bs r2/\Part .u8 h'' (.slice a' al2.length c') al2/\qaD h0 (.slice a' al2.length c')/\qaB h0 h''/\(dl<=al2.length/\al2.length<=dl+room)/\(r2.k=0->ls=0->8*(bs.length:Int)+1<=r2.i+f)/\(if(0:Int)≠0 then(r',al')else blF bs dl room sz F (f'+1) r' al')=(if ls≠0 then(r2,al2)else blF bs dl room sz F f r2 al2)) /\
    (if(blk bs dl room sz F r' al').1.k=0/\(bk1 bs r').2=0 then(8*(bs.length:Int)+1-(blk bs dl room sz F r' al').1.i).toNat+1 else 0)<(if r'.k=0/\(0:Int)=0 then(8*(bs.length:Int)+1-r'.i).toNat+1 else 0):=by
   intro h'' a5 c5 Q1 Q2 Q3;have hle:le2 (bk3 bs r') (blk bs dl room sz F r' al').1:=Rv;refine⟨⟨_,_,_,_,a5,c5,f',rfl,Rw ok',Q1,Q2,Q3,Tt hl'.1 hl'.2,fun h _=>?_,?_⟩,?_⟩
   ·have h3:=hle h;have h4:=lt3 h3.1;have:=hf hk rfl;push_cast at this;omega
   ·rw[est]
   ·rw[vP (show r'.k=0/\(0:Int)=0 from ⟨hk,rfl⟩)];split
    ·rename_i h;have h3:=hle h.1;have h4:=lt3 h3.1;omega
    ·omega
  have ebl:=zbz (bs:=bs) (dl:=dl) (room:=room) (sz:=sz) (F:=F) (r:=r') (al:=al');have hb1:U7 bs dl room (bk3 bs r') (bk2 bs r').2 al'=if(bk3 bs r').k=0/\(bk2 bs r').2=0 then stF bs dl room (bk3 bs r') al' else(bk3 bs r',al'):=rfl
  rw[ebl]at fin;refine⟨fun hc=>?_,fun hc _=>?_⟩
  ·have hc:(bk3 bs r').k=0/\(bk2 bs r').2=0:=by simpa using hc
   rw[vP hc]at hb1;rw[hb1]at fin;refine zb.mono (U6 (c:=d1) (dl:=dl) (sz:=sz) (room:=room) hi s' hx L (bk3 bs r') ok3 P' N' hl'.1 hl'.2 hdl hr) ?_;rintro _ h4 ⟨a4,c4,rfl,P4,N4,s4⟩;have hlen:=Og (bs:=bs) (dl:=dl) (room:=room) (n:=(stN bs (bk3 bs r')).toNat) (r:=stR bs (bk3 bs r')) hl'.1 hl'.2;refine⟨_,_,_,_,_,_,_,_,_,_,_,rfl,fun _=>?_⟩;exact Zd (c:=d1) hi s4 hx L (stF bs dl room (bk3 bs r') al').1 (Wz ok3) P4 N4 hlen.1 hlen.2 hdl hr hsz F hF (bk2 bs r').2 (bk1 bs r').2 _ _ (fun a' c' h' q1 q2 q3=>fin h' a' c' q1 q2 q3) _ _ _ _ _ _ _ _ _ _ _ _ _ _ _ _ _ _ _ _ _ _ _ _ _
  ·have hc:¬((bk3 bs r').k=0/\(bk2 bs r').2=0):=by
    intro h;rw[h.1,h.2]at hc;simp at hc
   rw[vM hc]at hb1;rw[hb1]at fin;exact Zd (c:=d1) hi s' hx L (bk3 bs r') ok3 P' N' hl'.1 hl'.2 hdl hr hsz F hF (bk2 bs r').2 (bk1 bs r').2 _ _ (fun a' c' h' q1 q2 q3=>fin h' a' c' q1 q2 q3) _ _ _ _ _ _ _ _ _ _ _ _ _ _ _ _ _ _ _ _ _ _ _ _ _
 ·have hend:¬(r'.k=0/\x0=0):=by
   intro h;rw[h.1,h.2]at hend;simp at hend
  have el:(if x0≠0 then(r',al')else blF bs dl room sz F f r' al')=(r',al'):=by
   by_cases h0:x0≠0
   ·rw[vP h0]
   ·rw[vM h0,Oi (fun h=>hend ⟨h,by omega⟩)]
  rw[el];exact⟨b2,d2,rfl,P',N',s'⟩
end
section
theorem JF{bs:List Int}{dl room sz F:Nat}:∀ {f:Nat} {r:Rd} {al:List Int},dl<=al.length->al.length<=dl+room->dl<=(blF bs dl room sz F f r al).2.length/\(blF bs dl room sz F f r al).2.length<=dl+room
 | 0,r,al,h1,h2=>⟨h1,h2⟩
 | f+1,r,al,h1,h2=>by
  have:=Tt (bs:=bs) (sz:=sz) (F:=F) (r:=r) h1 h2;unfold blF;split
  ·split
   ·exact this
   ·exact JF this.1 this.2
  ·exact⟨h1,h2⟩
theorem MM:∀ {f:Nat} {r:Rd} {al:List Int},okR bs r->okR bs (blF bs dl room sz F f r al).1
 | 0,r,al,H=>H
 | f+1,r,al,H=>by
  unfold blF;split
  ·split
   ·exact Rw H
   ·exact MM (Rw H)
  ·exact H
theorem Tu(hi:qaC S h0)(s:qaB h0 h)(P:Part .u8 h (.slice aa al.length ca) al)(hd:dl<=al.length)(hl:al.length<=2000000:=by omega) :
  zb oPP S Br #[Fj aa ca al dl sz room] h (fun v h'=>Part .u8 h' v (al.drop dl)/\qaD h0 v/\qaB h0 h'):=by
 refine NP (vs:=[.slice aa al.length ca,.int .i64 dl,.int .i64 sz,.int .i64 room]) ⟨rfl,rfl,rfl,rfl,trivial⟩ (hi.sub s) ?_;simp only[IB,Tr.wp,Ex.ev,coerce,toInt_int,za,zd,zi,ze,qa,wE,zB,Cst.val,SV.den,vA,vB,vO,vD,vE,vJ,vI];intro b hb;obtain⟨_,_,ei,hca,gx⟩:=P.ints;cases ei
 obtain⟨a',e,H'⟩:=qK gx (lo:=dl) (hi:=al.length) (m:=ca) hd (uN _) hca;have hdr:(al.drop dl).take (al.length-dl)=al.drop dl:=lK (by rw[pM];omega);rw[hdr]at e H';rw[vV,e];have sb:qaB h (upd h b (.cells (ints .u8 []) 5)):=Sub.zx hb;refine⟨by omega,by omega,?_⟩;refine zI (xs:=[]) hi (s.trans sb) (Own.made (k:=.u8) (h:=h) (b:=b) (T:=5) []).part (New.of (zU s hb)) (H'.sub sb) (by simp only[uF,pM];omega) fun v' h' o n' s' _ _=>?_
 obtain⟨a4,c4,rfl,_,_⟩:=o.ints;rw[vI]at o n';exact⟨o,n',s'⟩
theorem Pl(hi:qaC S h)(a:Option Addr)(c:Nat)(ds:List Int)(n room:Nat)(hc:ds.length<=c)(hl:ds.length<=1099511627776)(hn:n<=32768)(hx:zk h .u8 a ds) :
  zb oPP S Ao #[.int .i64 n,.slice a ds.length c,.int .i64 room] h (fun v h'=>∃a' c',v=Fj a' c' (zZ n ds) (zZ n ds).length n room/\Part .u8 h' (.slice a' (zZ n ds).length c') (zZ n ds)/\qaD h (.slice a' (zZ n ds).length c')/\qaB h h'):=by
 refine KX (vs:=[.int .i64 n,.slice a ds.length c,.int .i64 room]) ⟨rfl,rfl,rfl,trivial⟩ hi ?_;simp only[FZ,Tr.wp,z8,Ex.ev,coerce,toInt_int,zd,zi,ze,SV.den,zq,zK,zz,zm,zl,zw,vF,vG,vA,vB,vD,vE,vJ,vI,vK,vY,vL];refine(Yk hi a c ds n hc hl hn hx).mono ?_;rintro v1 h1 ⟨O1,N1,s1⟩;obtain⟨a1,c1,rfl,_,_⟩:=Part.ints O1;exact⟨_,_,_,rfl,a1,c1,rfl,O1,N1,s1⟩
end
end
variable {r':Rd}{B D b bm c1 c2:Nat}{T:TypeId}{p:Int}{last:Bool}{ls:List Nat}{g1 g2 g3 hb:qaA}{Y:Nat->Nat->Nat}{d l:Value}
section
section
theorem W3:∀s:Fin 285,265<=s.1->0<=IntKind.i64.wrap (IntKind.i64.wrap ((IntKind.i64.wrap ((s.1:Int)-265)).tdiv 4)+1) /\
  IntKind.i64.wrap (IntKind.i64.wrap (IntKind.i64.wrap (4+(IntKind.i64.wrap ((s.1:Int)-265)).tmod 4)*2^min (IntKind.i64.wrap (IntKind.i64.wrap ((IntKind.i64.wrap ((s.1:Int)-265)).tdiv 4)+1)).toNat IntKind.i64.bits)+3)=((xo s.1).1:Int) /\
  IntKind.i64.wrap (IntKind.i64.wrap ((IntKind.i64.wrap ((s.1:Int)-265)).tdiv 4)+1)=((xo s.1).2:Int):=by decide +kernel
theorem W4:∀d:Fin 30,4<=d.1->0<=IntKind.i64.wrap (IntKind.i64.wrap ((d.1:Int).tdiv 2)-1) /\
  IntKind.i64.wrap (IntKind.i64.wrap (IntKind.i64.wrap (2+(d.1:Int).tmod 2)*2^min (IntKind.i64.wrap (IntKind.i64.wrap ((d.1:Int).tdiv 2)-1)).toNat IntKind.i64.bits)+1)=((xW d.1).1:Int) /\
  IntKind.i64.wrap (IntKind.i64.wrap ((d.1:Int).tdiv 2)-1)=((xW d.1).2:Int):=by decide +kernel
theorem U8(hi:qaC S h)(s:Nat)(h1:257<=s)(h2:s<=285) :
  zb oPP S Bz #[.int .i64 s] h (fun v h'=>v=.tuple #[.int .i64 (xo s).1,.int .i64 (xo s).2]/\h'=h):=by
 refine Kc (vs:=[.int .i64 s]) ⟨rfl,trivial⟩ hi ?_;simp only[Fc,Tr.wp,Ex.ev,coerce,toInt_int,za,zB,arith,Cst.val,SV.den,vA,vO,vU,vD,vE,uA,vY,vL];refine⟨fun he=>?_,fun hne=>⟨fun hlt=>?_,fun hge=>?_⟩⟩
 ·obtain rfl:s=285:=by have:(s:Int)=285:=uP.1 he;omega
  rfl
 ·have e:xo s=(s-254,0):=by unfold xo;rw[vM (by omega),vP (by omega)]
  rw[e,i64_in ((s:Int)-254) (by omega)]
  first | rfl | (rw[show((s-254:Nat):Int)=(s:Int)-254 by omega];rfl)
 ·have hne:s≠285:=fun e=>by subst e;simp at hne
  obtain⟨a1,a2,a3⟩:=W3 ⟨s,by omega⟩ (by simp only;omega);simp only at a1 a2 a3;rw[a2,a3];exact⟨by simp,rfl⟩
theorem Yq(hi:qaC S h)(d:Nat)(h1:d<=29) :
  zb oPP S Dp #[.int .i64 d] h (fun v h'=>v=.tuple #[.int .i64 (xW d).1,.int .i64 (xW d).2]/\h'=h):=by
 refine M3 (vs:=[.int .i64 d]) ⟨rfl,trivial⟩ hi ?_;simp only[HK,Tr.wp,Ex.ev,coerce,toInt_int,za,zB,arith,Cst.val,SV.den,vA,vO,vU,vD,vE,uA,vY,vL];refine⟨fun hlt=>?_,fun hge=>?_⟩
 ·have e:xW d=(d+1,0):=by unfold xW;rw[vP (by omega)]
  rw[e,i64_in ((d:Int)+1) (by omega)]
  first | exact rfl | (push_cast;rfl)
 ·obtain⟨a1,a2,a3⟩:=W4 ⟨d,by omega⟩ (by simp only;omega);simp only at a1 a2 a3;rw[a2,a3];exact⟨by simp,rfl⟩
end
section
structure ErrL(h:qaA):Prop where
 es:Errs h
 e6:zg h ⟨5,0,none⟩=some (.int .i64 6)
theorem ErrL.sub(H:ErrL h)(s:qaB h h'):ErrL h':=⟨H.es.sub s,xJ s H.e6⟩
structure KC where
 a:Option Addr
 c:Nat
 bs:List Int
 dl:Nat
 room:Nat
 sz:Nat
 T:TypeId
 TW:TypeId
 bm:Nat
 bw:Nat
 pre:List Int
def KC.otl(k:KC)(al:List Int):List Int:=k.pre++al.drop k.dl
theorem KC.Tv{k:KC}:(k.otl al).length=k.pre.length+(al.length-k.dl):=by unfold KC.otl;rw[vR,pM]
theorem KC.Tw{k:KC}(h:k.dl<=al.length):k.otl (al++ys)=k.otl al++ys:=by unfold KC.otl;rw[mX h,vX]
def yX(k:KC)(al:List Int)(out:Value)(last:Bool)(l d:Value):MC:=⟨.pointer (some ⟨k.bw,0,none⟩),out,(k.room:Int)-((al.length-k.dl:Nat):Int),last,l,d⟩
structure IM(h0 h:qaA)(k:KC)(r:Rd)(al:List Int)(last:Bool)(l d:Value):Prop where
 mt:∃(p:Nat) (ao:Option Addr) (co:Nat),p<=8*k.bs.length/\(r.k=0->r.i=p)/\h k.bm=some (zV k.a k.c k.bs p (yX k al (.slice ao (k.otl al).length co) last l d) k.T) /\
  Part .u8 h (.slice ao (k.otl al).length co) (k.otl al)/\qaD (mkL h0 [k.bm,k.bw]) (.slice ao (k.otl al).length co)
 rg:RingAt h0 h k.bw k.TW k.sz (zZ k.sz al)
 nm:h0 k.bm=none
 ne:k.bm≠k.bw
 sb:qaB h0 h
 le:k.dl<=al.length/\al.length<=k.dl+k.room/\k.pre.length<=100000
section
variable {k:KC}
theorem IM.xE(N:qaD (mkL h0 [k.bm,k.bw]) l){z:Nat}(hz:zf l=some z):z≠k.bm/\z≠k.bw/\h0 z=none:=by
 obtain⟨h1,h2⟩:=Ag.1 (N z hz);simp only[uU,pB,nA,hZ]at h1;exact⟨h1.1,h1.2,h2⟩
theorem IM.Oj(H:IM h0 h k r al last l d){last':Bool}{l' d':Value}{p:Nat}{ao:Option Addr}{co:Nat}(hp:p<=8*k.bs.length)(hr:r'.k=0->r'.i=p)(P:Part .u8 h (.slice ao (k.otl al).length co) (k.otl al))(N:qaD (mkL h0 [k.bm,k.bw]) (.slice ao (k.otl al).length co)) :
  IM h0 (upd h k.bm (zV k.a k.c k.bs p (yX k al (.slice ao (k.otl al).length co) last' l' d') k.T)) k r' al last' l' d':=by
 obtain⟨dd,at_,n,hb,R,s,hn⟩:=H.rg;have sb:=yz (o:=zV k.a k.c k.bs p (yX k al (.slice ao (k.otl al).length co) last' l' d') k.T) H.sb H.nm;exact⟨⟨p,ao,co,hp,hr,upd_same,P.keep fun z hz=>upd_ne (IM.xE N hz).1,N⟩,⟨dd,at_,n,(upd_ne (uW H.ne)).trans hb,R,sb,hn⟩,H.nm,H.ne,sb,H.le⟩
theorem CY(hi:qaC S h0)(G:Errs h0)(hx:zk h0 .u8 k.a k.bs)(L:k.bs.length<=1048576)(H:IM h0 h k r al last l d)(hk:r.k=0)(n:Nat)(hn:n<=32:=by omega) :
  zb oPP S zP #[.pointer (some ⟨k.bm,0,none⟩),.int .i64 n] h (fun v h'=>v=.tuple #[.int .i64 (tk k.bs n r).2,zG (tk k.bs n r).1.k]/\IM h0 h' k (tk k.bs n r).1 al last l d):=by
 obtain⟨p,ao,co,hp,hr,hb,P,N⟩:=H.mt;obtain⟨i,kk⟩:=r;obtain rfl:kk=0:=hk;obtain rfl:i=(p:Int):=hr rfl;refine zb.mono (EC hi G hx L p hp n hn ⟨hb,H.nm,H.sb⟩) ?_;rintro _ h1 ⟨rfl,rfl⟩;have hp2:∃p2:Nat,p2<=8*k.bs.length/\(tk k.bs n ⟨(p:Int),0⟩).1.i=p2:=by
  unfold tk;rw[vP rfl];split
  ·exact⟨p,hp,rfl⟩
  ·rename_i h;simp only at h;exact⟨p+n,by omega,by simp only;omega⟩
 obtain⟨p2,hp2,e2⟩:=hp2;rw[e2];exact⟨rfl,H.Oj hp2 (fun _=>e2) P N⟩
theorem Jd{kk:IntKind}(H:zk h kk a xs)(hk:∀z,zf (.slice a n c)=some z->h' z=h z):zk h' kk a xs:=fun i x hx=>by
 obtain⟨ad,rfl,g1⟩:=H i x hx;have e:=hk ad.block rfl;have blk:∀n,(ad.add n).block=ad.block:=fun n=>by unfold Addr.add;split <;> rfl
 refine⟨ad,rfl,?_⟩;rw[<-g1];unfold Eng.zg;rw[show h' (ad.add _).block=h (ad.add _).block by rw[blk];exact e]
theorem Tx{m:MC}{p q:Int}(hb:h bm=some (zV a c bs p m T)):zJ h ⟨bm,4,none⟩ (.int .i64 q)=upd h bm (zV a c bs p ⟨m.w,m.out,q,m.last,m.l,m.d⟩ T):=by
 rw[hset_cells' hb];rfl
theorem Rx{m:MC}(hb:h bm=some (zV a c bs p m T)):zJ h ⟨bm,3,none⟩ v=upd h bm (zV a c bs p ⟨m.w,v,m.rm,m.last,m.l,m.d⟩ T):=by
 rw[hset_cells' hb];rfl
theorem W5(hi:qaC S h0)(G:ErrL h0)(hro:k.room<=200000)(hdl:k.dl<=40000)(H:IM h0 h k r al last l d)(hk:r.k=0){cd:Nat}(hy:zk h .u8 ad ys)(hyc:ys.length<=cd)(hyl:ys.length<=1000)(hyn:∀z,zf (.slice ad ys.length cd)=some z->z≠k.bm/\z≠k.bw/\(∀p ao co,h k.bm=some (zV k.a k.c k.bs p (yX k al (.slice ao (k.otl al).length co) last l d) k.T)->zf (.slice ao (k.otl al).length co)≠some z)) :
  zb oPP S jT #[.pointer (some ⟨k.bm,0,none⟩),.slice ad ys.length cd] h (fun v h'=>v=zG (tell k.dl k.room r al ys).1.k/\IM h0 h' k (tell k.dl k.room r al ys).1 (tell k.dl k.room r al ys).2 last l d):=by
 obtain⟨p,ao,co,hp,hr,hb,P,N⟩:=H.mt;refine F8 (vs:=[.pointer (some ⟨k.bm,0,none⟩),.slice ad ys.length cd]) ⟨rfl,rfl,trivial⟩ (hi.sub H.sb) ?_;simp only[B7,Tr.wp,z8,Ex.ev,coerce,toInt_int,za,zd,zi,ze,zj,zN,yq,zB,arith,Cst.val,SV.den,zq,zK,zz,zm,zw,zr,ye,vG,vA,vB,vO,vU,vD,vE,vJ,vI,uE,uI,uA,uJ,zp];obtain⟨g0,g1,g2,g3,g4,_⟩:=yy hb;have hsb:¬S k.bm:=fun hs=>hi k.bm hs H.nm
 refine⟨by simp,_,g4,fun hgt=>?_,fun hle=>?_⟩
 ·have hgt:k.room<al.length-k.dl+ys.length:=by simp only[yX]at hgt;have:=H.le;omega
  have et:tell k.dl k.room r al ys=(⟨r.i,6⟩,al):=by unfold tell;rw[vP hk,vP hgt]
  rw[et];refine⟨6,(G.sub H.sb).e6,rfl,?_⟩;have H':=H.Oj (r':=⟨r.i,6⟩) (last':=last) (l':=l) (d':=d) hp (fun h=>by cases h) P N;rwa[qb hb]at H'
 ·have hle:¬k.room<al.length-k.dl+ys.length:=by simp only[yX]at hle;have:=H.le;omega
  have et:tell k.dl k.room r al ys=(r,al++ys):=by unfold tell;rw[vP hk,vM hle]
  rw[et];have hrm:IntKind.i64.wrap ((yX k al (.slice ao (k.otl al).length co) last l d).rm-(ys.length:Int))=(k.room:Int)-(((al++ys).length-k.dl:Nat):Int):=by
   have:=H.le;simp only[yX,vR];rw[i64_in _ (by omega)];omega
  refine⟨by simp,_,g4,by simp,kH hb hsb g4,by simp,?_⟩;rw[hrm,Tx hb];obtain⟨h1,hh1⟩:∃h1,h1=upd h k.bm (zV k.a k.c k.bs p ⟨(yX k al (.slice ao (k.otl al).length co) last l d).w,(yX k al (.slice ao (k.otl al).length co) last l d).out,(k.room:Int)-(((al++ys).length-k.dl:Nat):Int),(yX k al (.slice ao (k.otl al).length co) last l d).last,(yX k al (.slice ao (k.otl al).length co) last l d).l,(yX k al (.slice ao (k.otl al).length co) last l d).d⟩ k.T):=⟨_,rfl⟩;rw[<-hh1];have hb1:h1 k.bm=some (zV k.a k.c k.bs p ⟨.pointer (some ⟨k.bw,0,none⟩),.slice ao (k.otl al).length co,(k.room:Int)-(((al++ys).length-k.dl:Nat):Int),last,l,d⟩ k.T):=by rw[hh1,upd_same];rfl
  obtain⟨_,_,_,q3,_⟩:=yy hb1;have hone:∀z,z≠k.bm->h1 z=h z:=fun z hz=>by rw[hh1];exact upd_ne hz
  have s1:qaB h0 h1:=by rw[hh1];exact yz H.sb H.nm
  have P1:Part .u8 h1 (.slice ao (k.otl al).length co) (k.otl al):=P.keep fun z hz=>hone z (IM.xE N hz).1
  have hy1:zk h1 .u8 ad ys:=Jd (n:=ys.length) (c:=cd) hy fun z hz=>hone z (hyn z hz).1
  refine⟨_,_,_,q3,?_⟩;have hdl2:(k.otl al).length<=300000:=by rw[KC.Tv];have:=H.le;omega
  refine zI hi s1 P1 (fun z hz=>(IM.xE N hz).2.2) hy1 (by omega) fun v5 h5 o5 n5 s5 k5 r5=>?_
  obtain⟨a5,c5,rfl,_,_⟩:=o5.ints;simp only[ze,zd,zi];have hb5:h5 k.bm=some (zV k.a k.c k.bs p ⟨.pointer (some ⟨k.bw,0,none⟩),.slice ao (k.otl al).length co,(k.room:Int)-(((al++ys).length-k.dl:Nat):Int),last,l,d⟩ k.T):=(k5 k.bm (by rw[hb1];simp) (fun e=>(IM.xE N e).1 rfl)).trans hb1;obtain⟨_,_,_,w3,_⟩:=yy hb5;refine⟨by simp,kH hb5 hsb w3,by simp,?_⟩;rw[Rx hb5];obtain⟨h6,hh6⟩:∃h6,h6=upd h5 k.bm (zV k.a k.c k.bs p ⟨.pointer (some ⟨k.bw,0,none⟩),.slice a5 (k.otl al++ys).length c5,(k.room:Int)-(((al++ys).length-k.dl:Nat):Int),last,l,d⟩ k.T):=⟨_,rfl⟩;rw[<-hh6];have hb6:h6 k.bm=some (zV k.a k.c k.bs p ⟨.pointer (some ⟨k.bw,0,none⟩),.slice a5 (k.otl al++ys).length c5,(k.room:Int)-(((al++ys).length-k.dl:Nat):Int),last,l,d⟩ k.T):=by rw[hh6,upd_same]
  obtain⟨_,_,u2,_⟩:=yy hb6;have h65:∀z,z≠k.bm->h6 z=h5 z:=fun z hz=>by rw[hh6];exact upd_ne hz
  have s6:qaB h0 h6:=by rw[hh6];exact yz s5 H.nm
  obtain⟨dd,at_,nn,hbw,R,sR,hnw⟩:=H.rg;have hbw1:h1 k.bw=some (yw k.sz dd at_ nn k.TW):=(hone k.bw (uW H.ne)).trans hbw;have hbw5:h5 k.bw=some (yw k.sz dd at_ nn k.TW):=(k5 k.bw (by rw[hbw1];simp) (fun e=>(IM.xE N e).2.1 rfl)).trans hbw1;have R6:RingAt h0 h6 k.bw k.TW k.sz (zZ k.sz al):=⟨dd,at_,nn,(h65 k.bw (uW H.ne)).trans hbw5,R,s6,hnw⟩;have nv:∀z,zf (.slice a5 (k.otl al++ys).length c5)=some z->z≠k.bm/\z≠k.bw:=fun z hz=>by
   rcases r5 with r5 | r5
   ·have:=IM.xE N (r5▸hz);exact⟨this.1,this.2.1⟩
   ·have:=r5 z hz;exact⟨fun e=>(by rw[e,hb1]at this;cases this),fun e=>(by rw[e,hbw1]at this;cases this)⟩
  have hy6:zk h6 .u8 ad ys:=by
   by_cases hys:ys=[]
   ·rw[hys];exact fun i x hx=>by simp at hx
   refine Jd (n:=ys.length) (c:=cd) hy1 fun z hz=>?_
   obtain⟨z1,z2,z3⟩:=hyn z hz;rw[h65 z z1];refine k5 z ?_ (z3 p ao co hb);obtain⟨y0,hy0⟩:∃y0,ys[0]? = some y0:=by
    cases ys with
    | nil=>exact absurd rfl hys
    | cons y0 yr=>exact⟨y0,rfl⟩
   obtain⟨ad',e',g'⟩:=hy1 0 y0 hy0;rw[e']at hz;have ez:ad'.block=z:=by simpa[zf]using hz
   rw[<-ez];intro hn;unfold Eng.zg at g';have blk:(ad'.add 0).block=ad'.block:=by unfold Addr.add;split <;> rfl
   rw[blk,hn]at g';cases g'
  refine⟨_,u2,?_⟩;refine zb.mono (U2 hi R6 ad cd ys hyc (by omega) fun h' hh=>Jd (n:=ys.length) (c:=cd) hy6 fun z hz=>hh z (hyn z hz).2.1) ?_;rintro _ h7 ⟨rfl,R7,hk7⟩;rw[CC]at R7;have ed:k.otl (al++ys)=k.otl al++ys:=KC.Tw H.le.1;refine⟨rfl,by rw[hk];rfl,⟨p,a5,c5,hp,hr,?_,?_,?_⟩,R7,H.nm,H.ne,R7.sub,?_⟩
  ·rw[hk7 k.bm H.ne,hb6,ed];rfl
  ·rw[ed];exact o5.keep fun z hz=>(hk7 z (nv z hz).2).trans (h65 z (nv z hz).1)
  ·rw[ed];exact fun z hz=>Ag.2 ⟨by simp[(nv z hz).1,(nv z hz).2],n5 z hz⟩
  ·have:=H.le;simp only[vR];omega
end
end
section
def fnV(k:KC)(f:Nat):Value:=.func (.func f) #[.pointer (some ⟨k.bm,0,none⟩)] #[]
def cont(k:KC)(F f:Nat)(last:Bool)(X:Rd×List Int):Rd×List Int:=if last=true then X else blF k.bs k.dl k.room k.sz F f X.1 X.2
theorem js{k:KC}{X:Rd×List Int}(h:X.1.k≠0):cont k F f last X=X:=by
 unfold cont;split
 ·rfl
 ·exact Oi h
def Ry(h0 hb:qaA)(l d:Value)(cl cd:List (Nat×Nat)):Prop:=
 ∃(b1 b2:Nat) (T1 P1 T2 P2:List (Nat×Nat)) (a1 a2:Option Addr) (c1 c2:Nat),l=.pointer (some ⟨b1,0,none⟩)/\d=.pointer (some ⟨b2,0,none⟩) /\
  TabV h0 hb b1 T1 P1 a1 c1 (Em cl cl.length) (Ym cl cl.length)/\TabV h0 hb b2 T2 P2 a2 c2 (Em cd cd.length) (Ym cd cd.length)/\T1.length<=20000/\T2.length<=20000/\(∀c∈cl,c.1<=15)/\(∀c∈cd,c.1<=15)/\cl.length<=1000/\cd.length<=1000
def mz(k:KC)(r:Rd):Nat:=4*(8*(k.bs.length:Int)+8-r.i).toNat
theorem JG{k:KC}{r rr:Rd}{m:Nat}(h:r.i+m<=rr.i)(h2:rr.i<=8*(k.bs.length:Int)):mz k rr+4*m<=mz k r:=by unfold mz;omega
def zb0 (h0 hb : qaA) (k : KC) (F : Nat) (Fin : Rd × List Int) (v : Value) (r : Rd) (al : List Int) (last : Bool) (l d : Value) (n : Nat) : Prop :=
  ∃ f : Nat, 8 * (k.bs.length : Int) + 1 <= r.i + f /\
   ((v = fnV k yC /\ n = mz k r + 0 /\ Fin = blF k.bs k.dl k.room k.sz F f r al) \/
    (v = fnV k jw /\ n = mz k r + 3 /\ Fin = cont k F f last (stF k.bs k.dl k.room r al)) \/
    (v = fnV k jA /\ n = mz k r + 3 /\ Fin = cont k F f last (syF k.bs (zn yB) (zn qe) k.dl k.room k.sz F r al)) \/
    (v = fnV k jg /\ n = mz k r + 3 /\ Fin = cont k F f last (if (ym k.bs r).1.k ≠ 0 then ((ym k.bs r).1, al) else syF k.bs (zn (ym k.bs r).2.1) (zn (ym k.bs r).2.2) k.dl k.room k.sz F (ym k.bs r).1 al)) \/
    (v = fnV k yO /\ n = mz k r + 2 /\ ∃ (cl cd : List (Nat × Nat)) (f' : Nat), Ry h0 hb l d cl cd /\ 8 * (k.bs.length : Int) + 1 <= r.i + f' /\ Fin = cont k F f last (syF k.bs cl cd k.dl k.room k.sz f' r al)) \/
    (v = fnV k xN /\ n = mz k r + 1 /\ Fin = cont k F f last (r, al)) \/
    (v = .nilFunc /\ n = mz k r + 0 /\ Fin = (r, al)))
def Fo(h0:qaA)(k:KC)(F:Nat)(Fin:Rd×List Int)(B:Nat)(v:Value)(h':qaA):Prop:=
 ∃(nx:Value) (rr:Rd) (al':List Int) (hb:qaA) (last:Bool) (l d:Value),v=.tuple #[nx,zG rr.k]/\qaB h0 hb/\IM hb h' k rr al' last l d/\okR k.bs rr /\
  (rr.k≠0->Fin=(rr,al')/\(nx=.nilFunc\/∃f,nx=fnV k f))/\(rr.k=0->∃n,n<B/\zb0 h0 hb k F Fin nx rr al' last l d n)
section
variable {k:KC}{Fin:Rd × List Int}
theorem Yr(hi:qaC S h0)(sb:qaB h0 hb)(H:IM hb h k r al last l d)(hk:r.k=0)(ok:okR k.bs r)(f:Nat)(hf:8*(k.bs.length:Int)+1<=r.i+f)(hB:mz k r+1<=B)(hF:Fin=cont k F f last (r,al)) :
  zb oPP S xN #[.pointer (some ⟨k.bm,0,none⟩)] h (Fo h0 k F Fin B):=by
 refine Es (vs:=[.pointer (some ⟨k.bm,0,none⟩)]) ⟨rfl,trivial⟩ (hi.sub (sb.trans H.sb)) ?_;simp only[AH,Tr.wp,Ex.ev,coerce,za,zj,zN,yq,Cst.val,SV.den,zw,zr,vA,vB,vD,vE,vJ,vI,uE,uI,uA,vY,vL,zp];obtain⟨p,ao,co,hp,hr,hbm,P,N⟩:=H.mt;obtain⟨_,_,_,_,_,g5,_⟩:=yy hbm;have ez:zG r.k=.nilIface:=by rw[hk];rfl
 refine⟨by simp,last,g5,fun hl=>?_,fun hl=>?_⟩
 ·refine⟨.nilFunc,r,al,hb,last,l,d,by rw[ez],sb,H,ok,fun h=>absurd hk h,fun _=>⟨_,(by omega:mz k r+0<B),f,hf,.inr (.inr (.inr (.inr (.inr (.inr ⟨rfl,rfl,?_⟩)))))⟩⟩;rw[hF,cont,vP hl]
 ·refine⟨fnV k yC,r,al,hb,last,l,d,by rw[ez];rfl,sb,H,ok,fun h=>absurd hk h,fun _=>⟨_,(by omega:mz k r+0<B),f,hf,.inl ⟨rfl,rfl,?_⟩⟩⟩;rw[hF,cont,vM (by rw[hl];decide)]
theorem W6(h:r.k≠0):tk bs n r=(r,0):=by unfold tk;rw[vM h]
theorem Tz(h:(tk bs n r).1.k≠0):(tk bs n r).2=0:=by
 unfold tk at h ⊢;split
 ·rename_i h0;rw[vP h0]at h;split
  ·rfl
  ·rename_i hgt;rw[vM hgt]at h;exact absurd rfl h
 ·rfl
theorem CZ(h:r.k≠0):bd w r=r:=by unfold bd;rw[vM (fun e=>h e.1)]
theorem W7{m:MC}(hb:h bm=some (zV a c bs p m T)):zJ h ⟨bm,5,none⟩ (.bool w)=upd h bm (zV a c bs p ⟨m.w,m.out,m.rm,w,m.l,m.d⟩ T):=by
 rw[hset_cells' hb];rfl
theorem IM.JH(H:IM hb h k r al last l d)(hr:r'.k≠0):IM hb h k r' al last l d:=by
 obtain⟨p,ao,co,hp,_,hbm,P,N⟩:=H.mt;exact⟨⟨p,ao,co,hp,fun h=>absurd h hr,hbm,P,N⟩,H.rg,H.nm,H.ne,H.sb,H.le⟩
theorem IM.zah(H:IM hb h k r al last l d)(w:Bool)(hsb:¬S k.bm):yU S h ⟨k.bm,5,none⟩/\IM hb (zJ h ⟨k.bm,5,none⟩ (.bool w)) k r al w l d:=by
 obtain⟨p,ao,co,hp,hr,hbm,P,N⟩:=H.mt;obtain⟨_,_,_,_,_,g5,_⟩:=yy hbm;refine⟨kH hbm hsb g5,?_⟩;rw[W7 hbm];exact H.Oj hp hr P N
theorem zai(hi:qaC S h0)(G:Errs h0)(hx:zk h0 .u8 k.a k.bs)(L:k.bs.length<=1048576)(sb:qaB h0 hb)(H:IM hb h k r al last l d)(hk:r.k=0)(ok:okR k.bs r)(f:Nat)(hf:8*(k.bs.length:Int)+1<=r.i+f)(hB:mz k r+0<=B)(hF:Fin=blF k.bs k.dl k.room k.sz F f r al) :
  zb oPP S yC #[.pointer (some ⟨k.bm,0,none⟩)] h (Fo h0 k F Fin B):=by
 refine EN (vs:=[.pointer (some ⟨k.bm,0,none⟩)]) ⟨rfl,trivial⟩ (hi.sub (sb.trans H.sb)) ?_;simp only[Ba,Tr.wp,z8,Ex.ev,coerce,toInt_int,za,zj,zN,yq,zB,Cst.val,SV.den,zq,zK,zz,zm,zl,zw,zr,ye,vF,vG,vA,vB,vD,vE,vJ,vI,vK,uB,uF,uE,uI,uA,uJ,vY,vL,zp];have hib:=hi.sub sb;have hsb:¬S k.bm:=fun hs=>hib k.bm hs H.nm
 have hpos:=ok hk;obtain⟨f',rfl⟩:∃f',f=f'+1:=⟨f-1,by omega⟩;have eF:Fin=cont k F f' ((bk1 k.bs r).2==1) (blk k.bs k.dl k.room k.sz F r al):=by
  rw[hF,blF,vP hk];have n1:=yl (bs:=k.bs) (n:=1) (r:=r);have q1:(2:Int)^1=2:=by decide
  have e1:(tk k.bs 1 r).2=(bk1 k.bs r).2:=rfl;rw[e1,q1]at n1;unfold cont;by_cases h1:(bk1 k.bs r).2=1
  ·rw[vP (show(bk1 k.bs r).2≠0 by omega),vP (by rw[h1];rfl)]
  ·rw[vM (show ¬(bk1 k.bs r).2≠0 by omega),vM (by simpa using h1)]
 have ok1:okR k.bs (bk1 k.bs r).1:=yp ok;refine zb.mono (CY hib (G.sub sb) (hx.sub sb) L H hk 1) ?_;rintro _ h1 ⟨rfl,H1⟩;refine⟨_,zG (tk k.bs 1 r).1.k,zc,by rw[zc],fun hz=>?_,fun hz=>?_⟩
 ·rw[zc,zy]at hz;have hk1:(bk1 k.bs r).1.k≠0:=by simpa[bk1]using hz
  refine⟨.nilFunc,(bk1 k.bs r).1,al,hb,last,l,d,by rw[zc];rfl,sb,H1,ok1,fun _=>⟨?_,.inl rfl⟩,fun h=>absurd h hk1⟩;have e2:bk2 k.bs r=((bk1 k.bs r).1,0):=W6 hk1;have e3:bk3 k.bs r=(bk1 k.bs r).1:=by unfold bk3;rw[e2];exact CZ hk1
  have eb:blk k.bs k.dl k.room k.sz F r al=((bk1 k.bs r).1,al):=by unfold blk;rw[e3,vP hk1]
  rw[eF,eb,js hk1]
 ·rw[zc,zy]at hz;have hk1:(bk1 k.bs r).1.k=0:=by simpa[bk1]using hz
  obtain⟨oc,H2⟩:=H1.zah (S:=S) ((tk k.bs 1 r).2==1) hsb;refine⟨by simp,oc,?_⟩;refine zb.mono (CY hib (G.sub sb) (hx.sub sb) L H2 hk1 2) ?_;rintro _ h3 ⟨rfl,H3⟩;have ok2:okR k.bs (bk2 k.bs r).1:=yp ok1;have n2:=yl (bs:=k.bs) (n:=2) (r:=(bk1 k.bs r).1);have q2:(2:Int)^2=4:=by decide
  have e2:tk k.bs 2 (tk k.bs 1 r).1=bk2 k.bs r:=rfl;have e2':tk k.bs 2 (bk1 k.bs r).1=bk2 k.bs r:=rfl;have e1:(tk k.bs 1 r).2=(bk1 k.bs r).2:=rfl;rw[e2',q2]at n2;rw[e2,e1]at H3;rw[e2];refine⟨_,zG (bk2 k.bs r).1.k,zc,by rw[zc],fun hz=>?_,fun hz=>?_⟩
  ·rw[zc,zy]at hz;have hk2:(bk2 k.bs r).1.k≠0:=by simpa using hz
   refine⟨.nilFunc,(bk2 k.bs r).1,al,hb,_,l,d,by rw[zc],sb,H3,ok2,fun _=>⟨?_,.inl rfl⟩,fun h=>absurd h hk2⟩;have e3:bk3 k.bs r=(bk2 k.bs r).1:=CZ hk2;have eb:blk k.bs k.dl k.room k.sz F r al=((bk2 k.bs r).1,al):=by unfold blk;rw[e3,vP hk2]
   rw[eF,eb,js hk2]
  ·rw[zc,zy]at hz;have hk2:(bk2 k.bs r).1.k=0:=by simpa using hz
   have ez:zG (bk2 k.bs r).1.k=.nilIface:=by rw[hk2];rfl
   have Cm:(bk2 k.bs r).2≠3->bk3 k.bs r=(bk2 k.bs r).1/\8*(k.bs.length:Int)+1<=(bk2 k.bs r).1.i+f'/\mz k (bk2 k.bs r).1+3<B:=fun h=>by
    have e3:bk3 k.bs r=(bk2 k.bs r).1:=by unfold bk3 bd;rw[vM (fun e=>h (by simpa using e.2))]
    have:=MK (bs:=k.bs) (r:=r) (by rw[e3];exact hk2);rw[e3]at this;have hm:=JG (k:=k) (r:=r) (rr:=(bk2 k.bs r).1) (m:=3) (by omega) (ok2 hk2).2;exact⟨e3,by push_cast at hf;omega,by omega⟩
   refine⟨fun h0=>?_,fun h0=>⟨fun h1'=>?_,fun h1'=>⟨fun h2'=>?_,fun h2'=>?_⟩⟩⟩
   ·have h0:(bk2 k.bs r).2=0:=uP.1 h0;obtain⟨e3,hf2,hm2⟩:=Cm (by omega);refine⟨fnV k jw,(bk2 k.bs r).1,al,hb,_,l,d,by rw[ez];rfl,sb,H3,ok2,fun h=>absurd hk2 h,fun _=>⟨_,hm2,f',hf2,.inr (.inl ⟨rfl,rfl,?_⟩)⟩⟩;rw[eF];congr 1;unfold blk;rw[e3,vM (show ¬(bk2 k.bs r).1.k≠0 from fun h=>h hk2),vP h0]
   ·have h0:(bk2 k.bs r).2≠0:=by simpa using h0
    have h1':(bk2 k.bs r).2=1:=uP.1 h1';obtain⟨e3,hf2,hm2⟩:=Cm (by omega);refine⟨fnV k jA,(bk2 k.bs r).1,al,hb,_,l,d,by rw[ez];rfl,sb,H3,ok2,fun h=>absurd hk2 h,fun _=>⟨_,hm2,f',hf2,.inr (.inr (.inl ⟨rfl,rfl,?_⟩))⟩⟩;rw[eF];congr 1;unfold blk;rw[e3,vM (show ¬(bk2 k.bs r).1.k≠0 from fun h=>h hk2),vM h0,vP h1']
   ·have h0:(bk2 k.bs r).2≠0:=by simpa using h0
    have h1':(bk2 k.bs r).2≠1:=by simpa using h1'
    have h2':(bk2 k.bs r).2=2:=uP.1 h2';obtain⟨e3,hf2,hm2⟩:=Cm (by omega);refine⟨fnV k jg,(bk2 k.bs r).1,al,hb,_,l,d,by rw[ez];rfl,sb,H3,ok2,fun h=>absurd hk2 h,fun _=>⟨_,hm2,f',hf2,.inr (.inr (.inr (.inl ⟨rfl,rfl,?_⟩)))⟩⟩;rw[eF];congr 1;unfold blk;rw[e3,vM (show ¬(bk2 k.bs r).1.k≠0 from fun h=>h hk2),vM h0,vM h1']
   ·have h0:(bk2 k.bs r).2≠0:=by simpa using h0
    have h1':(bk2 k.bs r).2≠1:=by simpa using h1'
    have h2':(bk2 k.bs r).2≠2:=by simpa using h2'
    have e3:bk3 k.bs r=⟨(bk2 k.bs r).1.i,3⟩:=by unfold bk3 bd;rw[vP ⟨hk2,by rw[show(bk2 k.bs r).2=3 by omega];rfl⟩]
    refine⟨3,((G.sub sb).sub H3.sb).e3,.nilFunc,⟨(bk2 k.bs r).1.i,3⟩,al,hb,_,l,d,rfl,sb,H3.JH (show(3:Int)≠0 by decide),fun h=>(by cases h),fun _=>⟨?_,.inl rfl⟩,fun h=>(by cases h)⟩;have eb:blk k.bs k.dl k.room k.sz F r al=(⟨(bk2 k.bs r).1.i,3⟩,al):=by unfold blk;rw[e3,vP (show(3:Int)≠0 by decide)]
    rw[eF,eb,js (show(3:Int)≠0 by decide)]
end
end
section
section
variable {k:KC}{Fin:Rd × List Int}
theorem Ol(hi:qaC S hb)(L:k.bs.length<=1048576)(H:IM hb h k r al last l d)(hk:r.k=0) :
  zb oPP S xS #[.pointer (some ⟨k.bm,0,none⟩)] h (fun v h'=>v=.tuple #[]/\IM hb h' k (alg r) al last l d):=by
 refine EM (vs:=[.pointer (some ⟨k.bm,0,none⟩)]) ⟨rfl,trivial⟩ (hi.sub H.sb) ?_;simp only[AZ,Tr.wp,Ex.ev,coerce,toInt_int,za,zj,zN,yq,arith,Cst.val,SV.den,zw,zr,ye,vA,vB,vD,vE,vJ,vI,uE,uI,uA,pL,zp];obtain⟨p,ao,co,hp,hr,hbm,P,N⟩:=H.mt;obtain⟨_,g1,_⟩:=yy hbm;have hsb:¬S k.bm:=fun hs=>hi k.bm hs H.nm
 have w:IntKind.i64.wrap (IntKind.i64.wrap ((IntKind.i64.wrap ((p:Int)+7)).tdiv 8)*8)=(((p+7)/8*8:Nat):Int):=by
  rw[i64_in ((p:Int)+7) (by omega),uL (by omega),i64_in (((p:Int)+7)/8) (by omega),i64_in _ (by omega)];omega
 refine⟨by simp,p,g1,by simp,kH hbm hsb g1,?_⟩;rw[w,Pe hbm];have ea:alg r=⟨(r.i+7)/8*8,0⟩:=vP hk;exact H.Oj (r':=alg r) (p:=(p+7)/8*8) (by omega) (fun _=>by rw[ea];have:=hr hk;simp only;omega) P N
theorem IM.sub(H:IM hb h k r al last l d)(s:qaB h h'):IM hb h' k r al last l d:=by
 obtain⟨p,ao,co,hp,hr,hbm,P,N⟩:=H.mt;exact⟨⟨p,ao,co,hp,hr,s _ _ hbm,P.sub s,N⟩,H.rg.mono s,H.nm,H.ne,H.sb.trans s,H.le⟩
theorem IM.fresh(H:IM hb h k r al last l d)(hbn:h b=none){o:Obj}:∀z,zf (.slice (some ⟨b,0,none⟩) n c)=some z->z≠k.bm/\z≠k.bw/\(∀p ao co,upd h b o k.bm=some (zV k.a k.c k.bs p (yX k al (.slice ao (k.otl al).length co) last l d) k.T)->zf (.slice ao (k.otl al).length co)≠some z):=fun z hz=>by
 obtain rfl:b=z:=by simpa[zf]using hz
 obtain⟨p,ao,co,hp,hr,hbm,P,N⟩:=H.mt;obtain⟨dd,at_,nn,hbw,_,_,_⟩:=H.rg;have n1:b≠k.bm:=fun e=>by rw[e,hbm]at hbn;cases hbn
 have n2:b≠k.bw:=fun e=>by rw[e,hbw]at hbn;cases hbn
 refine⟨n1,n2,fun p' ao' co' e hz=>?_⟩;rw[upd_ne (uW n1),hbm]at e;simp[zV,yX]at e;obtain⟨_,e1,e2⟩:=e;subst e1;subst e2;exact tB.Oheld P (show tB.B _ b from hz) hbn
theorem Gr(h:r.k≠0):stL bs dl room n r al=(r,al):=by
 cases n with
 | zero=>rfl
 | succ n=>rw[stL,vM h]
theorem Ys(h:r.k≠0):tell dl room r al ys=(r,al):=by unfold tell;rw[vM h]
theorem Yt(hi:qaC S h0)(G:ErrL h0)(hro:k.room<=200000)(hdl:k.dl<=40000)(hx:zk h0 .u8 k.a k.bs)(L:k.bs.length<=1048576)(sb:qaB h0 hb)(H:IM hb h k r al last l d)(hk:r.k=0)(ok:okR k.bs r)(f:Nat)(hf:8*(k.bs.length:Int)+1<=r.i+f)(hB:mz k r+3<=B)(hF:Fin=cont k F f last (stF k.bs k.dl k.room r al)) :
  zb oPP S jw #[.pointer (some ⟨k.bm,0,none⟩)] h (Fo h0 k F Fin B):=by
 refine Er (vs:=[.pointer (some ⟨k.bm,0,none⟩)]) ⟨rfl,trivial⟩ (hi.sub (sb.trans H.sb)) ?_;simp only[AG,Tr.wp,z8,Ex.ev,coerce,toInt_int,za,zd,zi,ze,zj,zN,zB,arith,Cst.val,SV.den,zq,zK,zz,zm,zl,zw,zY,zr,vF,vG,vA,vB,vC,vT,vO,vU,vD,vE,vJ,vI,vK,uB,uF,uE,uI,uA,uJ,vY,vL,zp];have hib:=hi.sub sb;have Gb:=G.sub sb;have hxb:=hx.sub sb;have ok0:=BK ok;have hk0:(alg r).k=0:=by unfold alg;rw[vP hk]
 have n16:=yl (bs:=k.bs) (n:=16) (r:=alg r);have q16:(2:Int)^16=65536:=by decide
 refine zb.mono (Ol hib L H hk) ?_;rintro _ h1 ⟨rfl,H1⟩;refine⟨rfl,?_⟩;refine zb.mono (CY hib Gb.es hxb L H1 hk0 16) ?_;rintro _ h2 ⟨rfl,H2⟩;have ok1:okR k.bs (tk k.bs 16 (alg r)).1:=yp ok0;refine⟨_,zG (tk k.bs 16 (alg r)).1.k,zc,by rw[zc],fun hz=>?_,fun hz=>?_⟩
 ·rw[zc,zy]at hz;have hk1:(tk k.bs 16 (alg r)).1.k≠0:=by simpa using hz
  refine⟨.nilFunc,_,al,hb,last,l,d,by rw[zc],sb,H2,ok1,fun _=>⟨?_,.inl rfl⟩,fun h=>absurd h hk1⟩;have e2:stR k.bs r=(tk k.bs 16 (alg r)).1:=by unfold stR;rw[W6 hk1];exact CZ hk1
  have es:stF k.bs k.dl k.room r al=((tk k.bs 16 (alg r)).1,al):=by unfold stF;rw[e2,Gr hk1]
  rw[hF,es,js hk1]
 rw[zc,zy]at hz;have hk1:(tk k.bs 16 (alg r)).1.k=0:=by simpa using hz
 refine zb.mono (CY hib Gb.es hxb L H2 hk1 16) ?_;rintro _ h3 ⟨rfl,H3⟩;have ok2:okR k.bs (tk k.bs 16 (tk k.bs 16 (alg r)).1).1:=yp ok1;refine⟨_,zG (tk k.bs 16 (tk k.bs 16 (alg r)).1).1.k,zc,by rw[zc],fun hz=>?_,fun hz=>?_⟩
 ·rw[zc,zy]at hz;have hk2:(tk k.bs 16 (tk k.bs 16 (alg r)).1).1.k≠0:=by simpa using hz
  refine⟨.nilFunc,_,al,hb,last,l,d,by rw[zc],sb,H3,ok2,fun _=>⟨?_,.inl rfl⟩,fun h=>absurd h hk2⟩;have e2:stR k.bs r=(tk k.bs 16 (tk k.bs 16 (alg r)).1).1:=CZ hk2;have es:stF k.bs k.dl k.room r al=((tk k.bs 16 (tk k.bs 16 (alg r)).1).1,al):=by unfold stF;rw[e2,Gr hk2]
  rw[hF,es,js hk2]
 rw[zc,zy]at hz;have hk2:(tk k.bs 16 (tk k.bs 16 (alg r)).1).1.k=0:=by simpa using hz
 have w1:IntKind.i64.wrap (65535-(tk k.bs 16 (alg r)).2)=65535-(tk k.bs 16 (alg r)).2:=i64_in _ (by omega);rw[w1];have eR:stR k.bs r=bd ((tk k.bs 16 (tk k.bs 16 (alg r)).1).2 != 65535-(tk k.bs 16 (alg r)).2) (tk k.bs 16 (tk k.bs 16 (alg r)).1).1:=rfl;refine⟨fun hne=>?_,fun heq=>?_⟩
 ·have e3:stR k.bs r=⟨(tk k.bs 16 (tk k.bs 16 (alg r)).1).1.i,3⟩:=by rw[eR];unfold bd;rw[vP ⟨hk2,hne⟩]
  have es:stF k.bs k.dl k.room r al=(⟨(tk k.bs 16 (tk k.bs 16 (alg r)).1).1.i,3⟩,al):=by unfold stF;rw[e3,Gr (show(3:Int)≠0 by decide)]
  refine⟨3,(Gb.sub H3.sb).es.e3,.nilFunc,⟨(tk k.bs 16 (tk k.bs 16 (alg r)).1).1.i,3⟩,al,hb,last,l,d,rfl,sb,H3.JH (show(3:Int)≠0 by decide),fun h=>(by cases h),fun _=>⟨?_,.inl rfl⟩,fun h=>(by cases h)⟩;rw[hF,es,js (show(3:Int)≠0 by decide)]
 have e3:stR k.bs r=(tk k.bs 16 (tk k.bs 16 (alg r)).1).1:=by rw[eR];unfold bd;rw[vM (fun h=>by rw[heq]at h;cases h.2)]
 have hR:le2 r (stR k.bs r):=((Rr.trans y7).trans y7).trans xP;obtain⟨n,hn⟩:∃n:Nat,n=(stN k.bs r).toNat:=⟨_,rfl⟩;have en:(tk k.bs 16 (alg r)).2=(n:Int):=by rw[hn];unfold stN;omega
 have hnl:n<65536:=by omega
 rw[<-e3]at H3 ok2 hk2;rw[en];have eSt:stF k.bs k.dl k.room r al=stL k.bs k.dl k.room n (stR k.bs r) al:=by unfold stF;rw[hn]
 refine⟨fun us h'=>∃(j:Nat) (r':Rd) (al':List Int),us=[.int .i64 j]/\j<=n/\r'.k=0/\okR k.bs r'/\IM hb h' k r' al' last l d/\le2 r r'/\stF k.bs k.dl k.room r al=stL k.bs k.dl k.room (n-j) r' al',fun us _=>n-(toInt (us.getD 0 undef)).toNat,⟨0,stR k.bs r,al,rfl,by omega,hk2,ok2,H3,hR,eSt⟩,?_⟩;rintro y h' ⟨j,r',al',hx1,hj,hk',ok',H',hle',e'⟩;simp only[uQ,uT,pL,uA]at hx1;subst hx1;refine⟨fun hlt=>?_,fun hge=>?_⟩
 ·have hlt:j<n:=by omega
  have n8:=yl (bs:=k.bs) (n:=8) (r:=r');have q8:(2:Int)^8=256:=by decide
  have el:stF k.bs k.dl k.room r al=stL k.bs k.dl k.room (n-(j+1)) (tell k.dl k.room (tk k.bs 8 r').1 al' [(tk k.bs 8 r').2]).1 (tell k.dl k.room (tk k.bs 8 r').1 al' [(tk k.bs 8 r').2]).2:=by
   rw[e',show n-j=(n-(j+1))+1 by omega,stL,vP hk']
  refine zb.mono (CY hib Gb.es hxb L H' hk' 8) ?_;rintro _ h4 ⟨rfl,H4⟩;have ok4:okR k.bs (tk k.bs 8 r').1:=yp ok';refine⟨_,zG (tk k.bs 8 r').1.k,zc,by rw[zc],fun hz=>?_,fun hz b hbn=>?_⟩
  ·rw[zc,zy]at hz;have hk4:(tk k.bs 8 r').1.k≠0:=by simpa using hz
   refine⟨.nilFunc,_,al',hb,last,l,d,by rw[zc],sb,H4,ok4,fun _=>⟨?_,.inl rfl⟩,fun h=>absurd h hk4⟩;rw[hF,el,Ys hk4,Gr hk4,js hk4]
  ·rw[zc,zy]at hz;have hk4:(tk k.bs 8 r').1.k=0:=by simpa using hz
   have wb:IntKind.u8.wrap (tk k.bs 8 r').2=(tk k.bs 8 r').2:=by rw[pG];omega
   rw[wb];have H5:=H4.sub (Sub.zx (o:=.cells (ints .u8 [(tk k.bs 8 r').2]) 5) hbn);refine zb.mono (W5 hib Gb hro hdl H5 hk4 (ad:=some ⟨b,0,none⟩) (cd:=1) (ys:=[(tk k.bs 8 r').2]) zk.new (by simp) (by simp) (H4.fresh hbn)) ?_;rintro _ h6 ⟨rfl,H6⟩;refine⟨zG (tell k.dl k.room (tk k.bs 8 r').1 al' [(tk k.bs 8 r').2]).1.k,zc,by rw[zc],fun hz=>?_,fun hz=>?_⟩
   ·rw[zc,zy]at hz;have hk6:(tell k.dl k.room (tk k.bs 8 r').1 al' [(tk k.bs 8 r').2]).1.k≠0:=by simpa using hz
    refine⟨.nilFunc,_,_,hb,last,l,d,by rw[zc],sb,H6,Be ok4,fun _=>⟨?_,.inl rfl⟩,fun h=>absurd h hk6⟩;rw[hF,el,Gr hk6,js hk6]
   ·rw[zc,zy]at hz;have hk6:(tell k.dl k.room (tk k.bs 8 r').1 al' [(tk k.bs 8 r').2]).1.k=0:=by simpa using hz
    have wj:IntKind.i64.wrap ((j:Int)+1)=((j+1:Nat):Int):=z9;rw[wj];exact⟨⟨j+1,_,_,rfl,by omega,hk6,Be ok4,H6,(hle'.trans y7).trans Gq,el⟩,by simp only[vA,toInt_int,vV];omega⟩
 ·obtain rfl:j=n:=by omega
  have ez:zG r'.k=.nilIface:=by rw[hk'];rfl
  refine⟨fnV k xN,r',al',hb,last,l,d,by rw[ez];rfl,sb,H',ok',fun h=>absurd hk' h,fun _=>⟨_,(by have hm:=JG (k:=k) (r:=r) (rr:=r') (m:=0) (by have:=(hle' hk').2;omega) (ok' hk').2;omega:mz k r'+1<B),f,by have:=(hle' hk').2;omega,.inr (.inr (.inr (.inr (.inr (.inl ⟨rfl,rfl,?_⟩)))))⟩⟩;rw[hF,e',mS];rfl
end
end
section
def wo(h:qaA)(ls:List Nat):qaA:=fun b=>if b∈ls then none else h b
theorem Qq:qaB (wo h ls) h:=fun b o e=>by
 unfold wo at e;split at e
 ·cases e
 ·exact e
theorem U9(s:qaB g h)(hn:∀b∈ls,g b=none):qaB g (wo h ls):=fun b o e=>by
 unfold wo;rw[vM (fun hb=>by rw[hn b hb]at e;cases e)];exact s b o e
theorem MN(hb:b∈ls):wo h ls b=none:=vP hb
theorem Rz(hb:b∉ls):wo h ls b=h b:=vM hb
theorem TabV.up{T P:List (Nat×Nat)}{E:Nat->Nat->Prop}(H:TabV g1 g2 b T P a c E Y){g0:qaA}(hn:∀z,g1 z=none->g0 z=none)(hs:∀z,z=b\/zf (.slice a T.length c)=some z->g3 z=g2 z)(s:qaB g0 g3):TabV g0 g3 b T P a c E Y:=
 ⟨by obtain⟨TY,hb⟩:=H.hb;exact⟨TY,(hs b (.inl rfl)).trans hb⟩,H.ow.keep fun z hz=>hs z (.inr hz),fun z hz=>hn z (H.nw z hz),hn b H.nb,H.ne,H.ti,s⟩
theorem TabV.Hh{T P:List (Nat×Nat)}{E:Nat->Nat->Prop}(H:TabV g1 g2 b T P a c E Y)(s:qaB g2 g3):TabV g1 g3 b T P a c E Y:=by
 refine H.up (fun _ h=>h) (fun z hz=>?_) (H.sb.trans s);rcases hz with rfl | hz
 ·obtain⟨TY,hb⟩:=H.hb;rw[hb];exact s _ _ hb
 ·have:=H.ow.held z hz;cases e:g2 z with
  | none=>exact absurd e this
  | some o=>exact s _ _ e
theorem Yu{m:MC}{v w:Value}(hb:h bm=some (zV a c bs p m T)):zJ (zJ h ⟨bm,6,none⟩ v) ⟨bm,7,none⟩ w=upd h bm (zV a c bs p ⟨m.w,m.out,m.rm,m.last,v,w⟩ T):=by
 rw[hset_cells' hb];have hb2:upd h bm (.cells (#[.slice a bs.length c,.int .i64 p,m.w,m.out,.int .i64 m.rm,.bool m.last,m.l,m.d].setIfInBounds 6 v) T) bm=some (zV a c bs p ⟨m.w,m.out,m.rm,m.last,v,m.d⟩ T):=by rw[upd_same];rfl
 rw[hset_cells' hb2,xe];rfl
section
variable {k:KC}{Fin:Rd × List Int}
theorem IM.Ze{h2:qaA}(H:IM hb h k r al last l d)(sb:qaB h0 hb)(s12:qaB h h2){b1 b2:Nat}{T1 P1 T2 P2:List (Nat×Nat)}
  (V1:TabV h h2 b1 T1 P1 a1 c1 (Em cl cl.length) (Ym cl cl.length))(V2:TabV h h2 b2 T2 P2 a2 c2 (Em cd cd.length) (Ym cd cd.length))(t1:T1.length<=20000)(t2:T2.length<=20000)(m1:∀c∈cl,c.1<=15)(m2:∀c∈cd,c.1<=15)(l1:cl.length<=1000)(l2:cd.length<=1000) :
  ∃hb2,qaB h0 hb2/\IM hb2 (zJ (zJ h2 ⟨k.bm,6,none⟩ (.pointer (some ⟨b1,0,none⟩))) ⟨k.bm,7,none⟩ (.pointer (some ⟨b2,0,none⟩))) k r al last (.pointer (some ⟨b1,0,none⟩)) (.pointer (some ⟨b2,0,none⟩))/\Ry h0 hb2 (.pointer (some ⟨b1,0,none⟩)) (.pointer (some ⟨b2,0,none⟩)) cl cd:=by
 obtain⟨p,ao,co,hp,hr,hbm,P,N⟩:=H.mt;obtain⟨dd,at_,nn,hbw,R,sR,hnw⟩:=H.rg;have hbm2:=s12 _ _ hbm;rw[Yu hbm2];obtain⟨h3,hh3⟩:∃h3,h3=upd h2 k.bm (zV k.a k.c k.bs p ⟨(yX k al (.slice ao (k.otl al).length co) last l d).w,(yX k al (.slice ao (k.otl al).length co) last l d).out,(yX k al (.slice ao (k.otl al).length co) last l d).rm,(yX k al (.slice ao (k.otl al).length co) last l d).last,.pointer (some ⟨b1,0,none⟩),.pointer (some ⟨b2,0,none⟩)⟩ k.T):=⟨_,rfl⟩;rw[<-hh3];obtain⟨ls,hls⟩:∃ls,ls=[k.bm,k.bw]++(zf (.slice ao (k.otl al).length co)).toList:=⟨_,rfl⟩;have mem:∀z,z∈ls<->z=k.bm\/z=k.bw\/zf (.slice ao (k.otl al).length co)=some z:=fun z=>by
  rw[hls];cases zf (.slice ao (k.otl al).length co)with
  | none=>simp
  | some y=>simp[eq_comm]
 have hbn:∀z∈ls,hb z=none:=fun z hz=>by
  rcases(mem z).1 hz with rfl | rfl | e
  ·exact H.nm
  ·exact hnw
  ·exact(IM.xE N e).2.2
 have some1:∀z∈ls,h z≠none:=fun z hz=>by
  rcases(mem z).1 hz with rfl | rfl | e
  ·rw[hbm];simp
  ·rw[hbw];simp
  ·exact tB.Oheld P (show tB.B _ z from e)
 have h32:∀z,z≠k.bm->h3 z=h2 z:=fun z hz=>by rw[hh3];exact upd_ne hz
 have s3:qaB hb h3:=by rw[hh3];exact yz (H.sb.trans s12) H.nm
 have sb2:qaB hb (wo h3 ls):=U9 s3 hbn;have P2':Part .u8 h3 (.slice ao (k.otl al).length co) (k.otl al):=(P.sub s12).keep fun z hz=>h32 z (IM.xE N hz).1
 have tab:∀ {b:Nat} {TT PP:List (Nat×Nat)} {aa:Option Addr} {cc:Nat} {E:Nat->Nat->Prop} {Y:Nat->Nat->Nat},TabV h h2 b TT PP aa cc E Y->TabV h0 (wo h3 ls) b TT PP aa cc E Y:=fun V=>by
  refine V.up (fun z hz=>zU (sb.trans H.sb) hz) (fun z hz=>?_) (sb.trans sb2);have hzn:h z=none:=by
   rcases hz with rfl | hz
   ·exact V.nb
   ·exact V.nw z hz
  have hzl:z∉ls:=fun hm=>some1 z hm hzn
  rw[Rz hzl];exact h32 z (fun e=>hzl ((mem z).2 (.inl e)))
 refine⟨wo h3 ls,sb.trans sb2,⟨⟨p,ao,co,hp,hr,by rw[hh3,upd_same];rfl,P2',fun z hz=>Ag.2 ⟨?_,MN ((mem z).2 (.inr (.inr hz)))⟩⟩,⟨dd,at_,nn,(h32 k.bw (uW H.ne)).trans (s12 _ _ hbw),R,Qq,MN ((mem _).2 (.inr (.inl rfl)))⟩,MN ((mem _).2 (.inl rfl)),H.ne,Qq,H.le⟩,b1,b2,T1,P1,T2,P2,a1,a2,c1,c2,rfl,rfl,tab V1,tab V2,t1,t2,m1,m2,l1,l2⟩;have:=IM.xE N hz;simp[this.1,this.2.1]
end
end
section
theorem R0{m:MC}(hb:h bm=some (zV a c bs p m T))(hs:¬S bm):yU S (zJ h ⟨bm,6,none⟩ v) ⟨bm,7,none⟩:=by
 rw[hset_cells' hb];have e:upd h bm (.cells (#[.slice a bs.length c,.int .i64 p,m.w,m.out,.int .i64 m.rm,.bool m.last,m.l,m.d].setIfInBounds 6 v) T) bm=some (zV a c bs p ⟨m.w,m.out,m.rm,m.last,v,m.d⟩ T):=by rw[upd_same];rfl
 obtain⟨_,_,_,_,_,_,_,g⟩:=yy e;exact kH e hs g
theorem codesN_15'(hg:¬(zu xs=0\/zu xs=2)):∀c∈zn xs,c.1<=15:=Pg (jH hg).2
section
variable {k:KC}{Fin:Rd × List Int}
theorem zaj(hi:qaC S h0)(L:k.bs.length<=1048576)(sb:qaB h0 hb)(H:IM hb h k r al last l d)(hk:r.k=0)(ok:okR k.bs r)(hFl:8*k.bs.length+1<=F)(f:Nat)(hf:8*(k.bs.length:Int)+1<=r.i+f)(hB:mz k r+3<=B)(hF:Fin=cont k F f last (syF k.bs (zn yB) (zn qe) k.dl k.room k.sz F r al)) :
  zb oPP S jA #[.pointer (some ⟨k.bm,0,none⟩)] h (Fo h0 k F Fin B):=by
 refine EO (vs:=[.pointer (some ⟨k.bm,0,none⟩)]) ⟨rfl,trivial⟩ (hi.sub (sb.trans H.sb)) ?_;simp only[Bb,Tr.wp,z8,Ex.ev,coerce,za,zd,zi,ze,zj,zN,yq,Cst.val,SV.den,zq,zK,zz,zm,zl,zw,ye,vF,vG,vA,vB,vD,vE,vJ,vI,vK,uB,uF,uE,uI,uJ,vY,vL,zp];have his:=hi.sub (sb.trans H.sb);have hsb:¬S k.bm:=fun hs=>hi.sub sb k.bm hs H.nm
 have hpos:=ok hk;refine zb.mono (K8 his) ?_;rintro _ h1 ⟨a1,c1,a2,c2,rfl,P1,P2,N1,N2,s1⟩;refine⟨_,_,_,_,_,_,rfl,?_⟩;have e288:(288:Nat)=yB.length:=kv.symm;have K1:=CQ (S:=S) (his.sub s1) a1 c1 yB (by rw[kv];exact P1) Hc Ai;rw[kv]at K1;refine zb.mono K1 ?_;rintro _ h2 ⟨b1,T1,Q1,d1,e1,rfl,V1,t1⟩;refine⟨_,rfl,?_⟩;have s2:=V1.sb;have K2:=CQ (S:=S) (his.sub (s1.trans s2)) a2 c2 qe (by rw[show qe.length=32 by simp[qe]];exact P2.sub s2) (by show qe.length<=1048576;simp[qe]) (by rw[Jc];decide);rw[show qe.length=32 by simp[qe]]at K2;refine zb.mono K2 ?_;rintro _ h3 ⟨b2,T2,Q2,d2,e2,rfl,V2,t2⟩;refine⟨_,rfl,?_⟩;have s3:=V2.sb;have s13:=s1.trans (s2.trans s3);obtain⟨p,ao,co,hp,hr,hbm,P,N⟩:=H.mt;have hbm3:=s13 _ _ hbm;obtain⟨_,_,_,_,_,_,g6,_⟩:=yy hbm3;have le1:(zn yB).length=288:=by rw[xA,kv]
 have le2':(zn qe).length=32:=by rw[xA];simp[qe]
 rw[<-le1]at V1;rw[<-le2']at V2;have W1:TabV h h3 b1 T1 Q1 d1 e1 (Em (zn yB) (zn yB).length) (Ym (zn yB) (zn yB).length):=(V1.Hh s3).up (fun z hz=>zU s1 hz) (fun _ _=>rfl) s13;have W2:TabV h h3 b2 T2 Q2 d2 e2 (Em (zn qe) (zn qe).length) (Ym (zn qe) (zn qe).length):=V2.up (fun z hz=>zU (s1.trans s2) hz) (fun _ _=>rfl) s13;obtain⟨hb2,sb2,H4,TA⟩:=H.Ze sb s13 W1 W2 t1 t2 (codesN_15' Ai) (codesN_15' (by rw[Jc];decide)) (by omega) (by omega);have ez:zG r.k=.nilIface:=by rw[hk];rfl
 refine⟨by simp,kH hbm3 hsb g6,by simp,R0 hbm3 hsb,?_⟩;refine⟨fnV k yO,r,al,hb2,last,_,_,by rw[ez];rfl,sb2,H4,ok,fun h=>absurd hk h,fun _=>⟨_,(by omega:mz k r+2<B),f,hf,.inr (.inr (.inr (.inr (.inl ⟨rfl,rfl,_,_,F,TA,by omega,hF⟩))))⟩⟩
theorem W8(hi:qaC S h0)(G:Errs h0)(hx:zk h0 .u8 k.a k.bs)(L:k.bs.length<=1048576)(sb:qaB h0 hb)(H:IM hb h k r al last l d)(hk:r.k=0)(ok:okR k.bs r)(hFl:8*k.bs.length+1<=F)(f:Nat)(hf:8*(k.bs.length:Int)+1<=r.i+f)(hB:mz k r+3<=B)
  (hF:Fin=cont k F f last (if(ym k.bs r).1.k≠0 then((ym k.bs r).1,al)else syF k.bs (zn (ym k.bs r).2.1) (zn (ym k.bs r).2.2) k.dl k.room k.sz F (ym k.bs r).1 al)) :
  zb oPP S jg #[.pointer (some ⟨k.bm,0,none⟩)] h (Fo h0 k F Fin B):=by
 refine DC (vs:=[.pointer (some ⟨k.bm,0,none⟩)]) ⟨rfl,trivial⟩ (hi.sub (sb.trans H.sb)) ?_;simp only[Au,Tr.wp,z8,Ex.ev,coerce,za,zd,zi,ze,zj,zN,yq,Cst.val,SV.den,zq,zK,zz,zm,zl,zw,ye,vF,vG,vA,vB,vD,vE,vJ,vI,vK,uB,uF,uE,uI,uJ,vY,vL,zp];have hib:=hi.sub sb;have hsb:¬S k.bm:=fun hs=>hib k.bm hs H.nm
 have hpos:=ok hk;obtain⟨p,ao,co,hp,hr,hbm,P,N⟩:=H.mt;obtain⟨dd,at_,nn,hbw,R,sR,hnw⟩:=H.rg;obtain⟨g,hg⟩:∃g,g=wo h [k.bm]:=⟨_,rfl⟩;have sbg:qaB hb g:=hg▸U9 H.sb (fun b hb'=>by rw[uO.1 hb'];exact H.nm);have sgh:qaB g h:=hg▸Qq;have gb:g k.bm=none:=hg▸MN (uO.2 rfl);have gne:∀z,z≠k.bm->g z=h z:=fun z hz=>by rw[hg];exact Rz (fun hm=>hz (uO.1 hm))
 have er:r=⟨(p:Int),0⟩:=by
  obtain⟨i,kk⟩:=r;obtain rfl:kk=0:=hk;rw[show i=(p:Int) from hr rfl]
 refine zb.mono (ZZ (hib.sub sbg) ((G.sub sb).sub sbg) ((hx.sub sb).sub sbg) L p hp ⟨hbm,gb,sgh⟩) ?_;rw[<-er];have okF:=Fl ok;have leF:le2 r (ym k.bs r).1:=Lo;have Cm:=MJ (bs:=k.bs) (r:=r);obtain⟨lenA,xo⟩:=MI (bs:=k.bs) (r:=r);generalize ym k.bs r=X at hF okF leF Cm lenA xo ⊢;rintro _ h1 ⟨u,w,rfl,⟨p',hp',M1,hpi⟩,hP,⟨a1,l1,c1,a2,l2,c2,rfl,rfl⟩⟩;have sg1:=M1.sb;have hkeep:∀z,z≠k.bm->h z≠none->h1 z=h z:=fun z hz hn=>by
  cases e:h z with
  | none=>exact absurd e hn
  | some o=>exact sg1 z o ((gne z hz).trans e)
 have H1:IM hb h1 k X.1 al last l d:=⟨⟨p',ao,co,hp',hpi,M1.hb,P.keep fun z hz=>hkeep z (IM.xE N hz).1 (tB.Oheld P (show tB.B _ z from hz)),N⟩,⟨dd,at_,nn,(hkeep k.bw (uW H.ne) (by rw[hbw];simp)).trans hbw,R,sbg.trans sg1,hnw⟩,H.nm,H.ne,sbg.trans sg1,H.le⟩;refine⟨_,_,_,_,_,_,zG X.1.k,zc,by rw[zc],fun hz=>?_,fun hz=>?_⟩
 ·rw[zc,zy]at hz;have hk1:X.1.k≠0:=by simpa using hz
  refine⟨.nilFunc,X.1,al,hb,last,l,d,by rw[zc],sb,H1,okF,fun _=>⟨?_,.inl rfl⟩,fun h=>absurd h hk1⟩;rw[hF,vP hk1,js hk1]
 rw[zc,zy]at hz;have hk1:X.1.k=0:=by simpa using hz
 rw[vM (fun h=>h hk1)]at hF;obtain⟨P1,P2,N1,N2⟩:=hP hk1;obtain⟨g1,g2⟩:=Cm hk1;obtain⟨_,_,ei,_,_⟩:=P1.ints;cases ei
 obtain⟨_,_,ei,_,_⟩:=P2.ints;cases ei
 have his1:=hib.sub H1.sb;refine zb.mono (CQ (S:=S) his1 a1 c1 X.2.1 P1 (mQ lenA (by decide)) g1) ?_;rintro _ h2 ⟨b1,T1,Q1,d1,e1,rfl,V1,t1⟩;refine⟨_,rfl,?_⟩;have s2:=V1.sb;refine zb.mono (CQ (S:=S) (his1.sub s2) a2 c2 X.2.2 (P2.sub s2) (mQ xo (by decide)) g2) ?_;rintro _ h3 ⟨b2,T2,Q2,d2,e2,rfl,V2,t2⟩;refine⟨_,rfl,?_⟩;have s3:=V2.sb;have s13:=s2.trans s3;have hbm3:=s13 _ _ M1.hb;obtain⟨_,_,_,_,_,_,g6,_⟩:=yy hbm3;rw[<-xA (xs:=X.2.1)]at V1;rw[<-xA (xs:=X.2.2)]at V2;have W1:=V1.Hh s3;have W2:TabV h1 h3 b2 T2 Q2 d2 e2 (Em (zn X.2.2) (zn X.2.2).length) (Ym (zn X.2.2) (zn X.2.2).length):=V2.up (fun z hz=>zU s2 hz) (fun _ _=>rfl) s13;obtain⟨hb2,sb2,H4,TA⟩:=H1.Ze sb s13 W1 W2 t1 t2 (codesN_15' g1) (codesN_15' g2) (by rw[xA];omega) (by rw[xA];omega);have ez:zG X.1.k=.nilIface:=by rw[hk1];rfl
 have hpos2:=okF hk1;have hle:=(leF hk1).2;refine⟨by simp,kH hbm3 hsb g6,by simp,R0 hbm3 hsb,?_⟩;refine⟨fnV k yO,X.1,al,hb2,last,_,_,by rw[ez];rfl,sb2,H4,okF,fun h=>absurd hk1 h,fun _=>⟨_,(by have hm:=JG (k:=k) (r:=r) (rr:=X.1) (m:=0) (by omega) hpos2.2;omega:mz k X.1+2<B),f,by omega,.inr (.inr (.inr (.inr (.inl ⟨rfl,rfl,_,_,F,TA,by omega,hF⟩))))⟩⟩
end
end
section
theorem Om{L:List Int}(h1:1<=D)(h2:D<=L.length):∀n,jr D L n=L++cpD L D n
 | 0=>by simp[jr,cpD]
 | n+1=>by
  have ih:=Om h1 h2 n;have hX:(L++cpD L D n).length=L.length+n:=by rw[vR,DN]
  rw[jr,ih,hX,Rs,<-vX];congr 2;by_cases hn:n<D
  ·simp only[List.getD];rw[pV hn,uC (by omega),show L.length+n-D=L.length-D+n by omega]
  ·simp only[List.getD];rw[uM (by omega),show L.length+n-D-L.length=n-D by omega];have hm:(n-D)%D=n%D:=by rw[<-Nat.add_mod_right (n-D) D,Nat.sub_add_cancel (by omega)]
   rw[<-hm];simp[cpD,List.getD,show n-D<n by omega]
theorem R4(h1:1<=D)(h2:D<=(zZ sz al).length):cpD (zZ sz al) D n=cpD al D n:=by
 unfold cpD;apply mH;intro j _;have hm:j%D<D:=fV _ (by omega);have hl:=jz (n:=sz) (L:=al);rw[hl];rw[hl]at h2;unfold zZ;simp only[List.getD,mO];rw[show al.length-sz+(min al.length sz-D+j%D)=al.length-D+j%D by omega]
theorem zb1:∀s:Fin 286,257<=s.1->(xo s.1).1+2^(xo s.1).2<=259:=by decide +kernel
section
variable {k:KC}{Fin:Rd × List Int}
theorem W9(hi:qaC S h0)(G:Errs h0)(hx:zk h0 .u8 k.a k.bs)(L:k.bs.length<=1048576)(sb:qaB h0 hb)(H:IM hb h k r al last l d)(hk:r.k=0){bt:Nat}{TT PP:List (Nat×Nat)}(TV:TabV h0 hb bt TT PP a2 c2 (Em cs cs.length) (Ym cs cs.length))(hTl:TT.length<=20000)(hM:∀c∈cs,c.1<=15)(hcl:cs.length<=1000) :
  zb oPP S xg #[.pointer (some ⟨k.bm,0,none⟩),.pointer (some ⟨bt,0,none⟩)] h (fun v h'=>v=.tuple #[.int .i64 (sy k.bs cs r).2,zG (sy k.bs cs r).1.k]/\IM hb h' k (sy k.bs cs r).1 al last l d):=by
 obtain⟨p,ao,co,hp,hr,hbm,P,N⟩:=H.mt;obtain⟨i,kk⟩:=r;obtain rfl:kk=0:=hk;obtain rfl:i=(p:Int):=hr rfl;refine zb.mono (Pf hi G hx L p hp ⟨hbm,zU sb H.nm,sb.trans H.sb⟩ (TV.Hh H.sb) hTl hM (fun e=>?_) (fun e=>?_) (Rf _) hcl) ?_
 ·obtain⟨TY,hbb⟩:=TV.hb;rw[e,H.nm]at hbb;cases hbb
 ·exact TV.ow.held _ e H.nm
 rintro _ h1 ⟨rfl,p',hp',rfl,hpe⟩;exact⟨rfl,H.Oj hp' (fun h=>(hpe h).symm) P N⟩
theorem zb2(h:r.k≠0):sy bs cs r=(r,0):=by unfold sy;rw[vM h]
theorem WA(hi:qaC S h0)(G:ErrL h0)(hro:k.room<=200000)(hdl:k.dl<=40000)(hsz:1<=k.sz/\k.sz<=32768)(hx:zk h0 .u8 k.a k.bs)(L:k.bs.length<=1048576)(sb:qaB h0 hb)(H:IM hb h k r al last l d)(hk:r.k=0)(ok:okR k.bs r)(f:Nat)(hf:8*(k.bs.length:Int)+1<=r.i+f)(f':Nat)(hf':8*(k.bs.length:Int)+1<=r.i+f')(TA:Ry h0 hb l d cl cd)(hB:mz k r+2<=B)
  (hF:Fin=cont k F f last (syF k.bs cl cd k.dl k.room k.sz f' r al)) :
  zb oPP S yO #[.pointer (some ⟨k.bm,0,none⟩)] h (Fo h0 k F Fin B):=by
 refine DD (vs:=[.pointer (some ⟨k.bm,0,none⟩)]) ⟨rfl,trivial⟩ (hi.sub (sb.trans H.sb)) ?_;simp (maxSteps:=4000000) only[Av,Tr.wp,z8,Ex.ev,coerce,toInt_int,za,zd,zi,ze,zj,zN,yq,zB,arith,Cst.val,SV.den,zq,zK,zz,zm,zl,zw,zr,vF,vG,vA,vB,vO,vU,vD,vE,vJ,vI,vK,uB,uF,uE,uI,uA,uJ,vY,vL,zp];have hib:=hi.sub sb;have Gb:=G.sub sb;have hxb:=hx.sub sb;have hsb:¬S k.bm:=fun hs=>hib k.bm hs H.nm
 have hpos:=ok hk;obtain⟨f2,rfl⟩:∃f2,f'=f2+1:=⟨f'-1,by omega⟩;obtain⟨b1,b2,T1,P1,T2,P2,a1,a2,c1,c2,rfl,rfl,V1,V2,t1,t2,m1,m2,l1,l2⟩:=id TA;have est:syF k.bs cl cd k.dl k.room k.sz (f2+1) r al=(if(sy k.bs cl r).1.k≠0\/(sy k.bs cl r).2=256 then((sy k.bs cl r).1,al)else syF k.bs cl cd k.dl k.room k.sz f2 (sy1 k.bs cd k.dl k.room k.sz (sy k.bs cl r).1 al (sy k.bs cl r).2).1 (sy1 k.bs cd k.dl k.room k.sz (sy k.bs cl r).1 al (sy k.bs cl r).2).2):=by rw[syF,vP hk]
 obtain⟨_,_,_,_,_,hbm0,_,_⟩:=H.mt;obtain⟨_,_,_,_,_,_,g6,g7⟩:=yy hbm0;refine⟨by simp,_,g6,?_⟩;refine zb.mono (W9 hi G.es hx L sb H hk V1 t1 m1 l1) ?_;rintro _ h1 ⟨rfl,H1⟩;have ok1:okR k.bs (sy k.bs cl r).1:=Cv ok;have lt1:(sy k.bs cl r).1.k=0->r.k=0/\r.i+1<=(sy k.bs cl r).1.i:=U4;have nn1:=MG (bs:=k.bs) (cs:=cl) (r:=r);generalize sy k.bs cl r=q at est H1 ok1 lt1 nn1 ⊢;obtain⟨r1,x⟩:=q;simp only at est H1 ok1 lt1 nn1 ⊢;refine⟨_,zG r1.k,zc,by rw[zc],fun hz=>?_,fun hz=>?_⟩
 ·rw[zc,zy]at hz;have hk1:r1.k≠0:=by simpa using hz
  refine⟨.nilFunc,r1,al,hb,last,_,_,by rw[zc],sb,H1,ok1,fun _=>⟨?_,.inl rfl⟩,fun h=>absurd h hk1⟩;rw[hF,est,vP (.inl hk1),js hk1]
 rw[zc,zy]at hz;have hk1:r1.k=0:=by simpa using hz
 have hlt1:=(lt1 hk1).2;refine⟨fun hlt b hbn=>?_,fun hge=>⟨fun h256=>?_,fun h256=>⟨fun hgt=>?_,fun hle=>?_⟩⟩⟩
 ·have wb:IntKind.u8.wrap x=x:=by rw[pG];omega
  rw[wb];have e1:sy1 k.bs cd k.dl k.room k.sz r1 al x=tell k.dl k.room r1 al [x]:=vP hlt;rw[vM (by omega),e1]at est;have H5:=H1.sub (Sub.zx (o:=.cells (ints .u8 [x]) 5) hbn);refine zb.mono (W5 hib Gb hro hdl H5 hk1 (ad:=some ⟨b,0,none⟩) (cd:=1) (ys:=[x]) zk.new (by simp) (by simp) (H1.fresh hbn)) ?_;rintro _ h6 ⟨rfl,H6⟩;refine⟨zG (tell k.dl k.room r1 al [x]).1.k,zc,by rw[zc],?_⟩;rw[zc];refine⟨fnV k yO,_,_,hb,last,_,_,rfl,sb,H6,Be ok1,fun h6k=>⟨?_,.inr ⟨_,rfl⟩⟩,fun h6k=>?_⟩
  ·rw[hF,est,JE h6k,js h6k]
  ·have hle6:=(Gq (dl:=k.dl) (room:=k.room) (al:=al) (d:=[x]) h6k).2;exact⟨_,(by have hm:=JG (k:=k) (r:=r) (rr:=(tell k.dl k.room r1 al [x]).1) (m:=1) (by omega) (Be ok1 h6k).2;omega:mz k (tell k.dl k.room r1 al [x]).1+2<B),f,by omega,.inr (.inr (.inr (.inr (.inl ⟨rfl,rfl,_,_,f2,TA,by push_cast at hf';omega,by rw[hF,est]⟩))))⟩
 ·have h256:x=256:=uP.1 h256;have ez:zG r1.k=.nilIface:=by rw[hk1];rfl
  refine⟨fnV k xN,r1,al,hb,last,_,_,by rw[ez];rfl,sb,H1,ok1,fun h=>absurd hk1 h,fun _=>⟨_,(by have hm:=JG (k:=k) (r:=r) (rr:=r1) (m:=1) (by omega) (ok1 hk1).2;omega:mz k r1+1<B),f,by omega,.inr (.inr (.inr (.inr (.inr (.inl ⟨rfl,rfl,?_⟩)))))⟩⟩;rw[hF,est,vP (.inr h256)]
 ·have h256:x≠256:=by simpa using h256
  have e1:sy1 k.bs cd k.dl k.room k.sz r1 al x=(⟨r1.i,3⟩,al):=by unfold sy1;rw[vM (by omega),vP (by omega)];unfold bd;rw[vP ⟨hk1,rfl⟩]
  rw[vM (by omega),e1]at est;refine⟨3,(Gb.sub H1.sb).es.e3,.nilFunc,⟨r1.i,3⟩,al,hb,last,_,_,rfl,sb,H1.JH (show(3:Int)≠0 by decide),fun h=>(by cases h),fun _=>⟨?_,.inl rfl⟩,fun h=>(by cases h)⟩;rw[hF,est,JE (show(3:Int)≠0 by decide),js (show(3:Int)≠0 by decide)]
 ·have h256:x≠256:=by simpa using h256
  obtain⟨s,rfl⟩:=vZ (show 0<=x by omega);have e1:sy1 k.bs cd k.dl k.room k.sz r1 al (s:Int)=cpF k.bs cd k.dl k.room k.sz r1 al s:=by unfold sy1;rw[vM (by omega),vM (by omega)];rfl
  rw[vM (by omega),e1]at est;have bad:∀(h':qaA) (rr:Rd),cpF k.bs cd k.dl k.room k.sz r1 al s=(rr,al)->rr.k≠0->okR k.bs rr->IM hb h' k rr al last (.pointer (some ⟨b1,0,none⟩)) (.pointer (some ⟨b2,0,none⟩))->Fo h0 k F Fin B (.tuple #[.nilFunc,zG rr.k]) h':=fun h' rr e hkr okr HR=>
   ⟨.nilFunc,rr,al,hb,last,_,_,rfl,sb,HR,okr,fun _=>⟨by rw[hF,est,e,JE hkr,js hkr],.inl rfl⟩,fun h=>absurd h hkr⟩
  have hlen:=To ⟨s,by omega⟩ (by simp only;omega);simp only at hlen;refine zb.mono (U8 (hib.sub H1.sb) s (by omega) (by omega)) ?_;rintro _ h2 ⟨rfl,rfl⟩;refine⟨_,_,rfl,?_⟩;refine zb.mono (CY hib Gb.es hxb L H1 hk1 (xo s).2) ?_;rintro _ h2 ⟨rfl,H2⟩;have okc1:okR k.bs (cp1 k.bs r1 s).1:=yp ok1;have e1':tk k.bs (xo s).2 r1=cp1 k.bs r1 s:=rfl;rw[e1']at H2 ⊢;refine⟨_,zG (cp1 k.bs r1 s).1.k,zc,by rw[zc],fun hz=>?_,fun hz=>?_⟩
  ·rw[zc,zy]at hz;have hk2:(cp1 k.bs r1 s).1.k≠0:=by simpa using hz
   rw[zc];refine bad h2 _ ?_ hk2 okc1 H2;have e2:cp2 k.bs cd r1 s=((cp1 k.bs r1 s).1,0):=zb2 hk2;have e3:cp3 k.bs cd r1 s=(cp1 k.bs r1 s).1:=by unfold cp3;rw[e2];exact CZ hk2
   unfold cpF;rw[e3,vP hk2]
  rw[zc,zy]at hz;have hk2:(cp1 k.bs r1 s).1.k=0:=by simpa using hz
  obtain⟨_,_,_,_,_,hbm2,_,_⟩:=H2.mt;obtain⟨_,_,_,_,_,_,_,g7'⟩:=yy hbm2;refine⟨by simp,_,g7',?_⟩;refine zb.mono (W9 hi G.es hx L sb H2 hk2 V2 t2 m2 l2) ?_;rintro _ h3 ⟨rfl,H3⟩;have okc2:okR k.bs (cp2 k.bs cd r1 s).1:=Cv okc1;have e2':sy k.bs cd (cp1 k.bs r1 s).1=cp2 k.bs cd r1 s:=rfl;have nn2:=MG (bs:=k.bs) (cs:=cd) (r:=(cp1 k.bs r1 s).1);rw[e2']at H3 nn2 ⊢;refine⟨_,zG (cp2 k.bs cd r1 s).1.k,zc,by rw[zc],fun hz=>?_,fun hz=>?_⟩
  ·rw[zc,zy]at hz;have hk3:(cp2 k.bs cd r1 s).1.k≠0:=by simpa using hz
   rw[zc];refine bad h3 _ ?_ hk3 okc2 H3;have e3:cp3 k.bs cd r1 s=(cp2 k.bs cd r1 s).1:=CZ hk3;unfold cpF;rw[e3,vP hk3]
  rw[zc,zy]at hz;have hk3:(cp2 k.bs cd r1 s).1.k=0:=by simpa using hz
  refine⟨fun hgt=>?_,fun hle29=>?_⟩
  ·have e3:cp3 k.bs cd r1 s=⟨(cp2 k.bs cd r1 s).1.i,3⟩:=by unfold cp3 bd;rw[vP ⟨hk3,pZ (by omega)⟩]
   refine⟨3,(Gb.sub H3.sb).es.e3,bad h3 ⟨(cp2 k.bs cd r1 s).1.i,3⟩ ?_ (show(3:Int)≠0 by decide) (fun h=>(by cases h)) (H3.JH (show(3:Int)≠0 by decide))⟩;unfold cpF;rw[e3,vP (show(3:Int)≠0 by decide)]
  have e3:cp3 k.bs cd r1 s=(cp2 k.bs cd r1 s).1:=by unfold cp3 bd;rw[vM (fun h=>by have:=nX h.2;omega)]
  obtain⟨dd,hdd⟩:=vZ nn2.1;have hd29:dd<=29:=by omega
  have hdis:=Tp ⟨dd,by omega⟩;simp only at hdis;rw[hdd];refine zb.mono (Yq (hib.sub H3.sb) dd hd29) ?_;rintro _ h4 ⟨rfl,rfl⟩;refine⟨_,_,rfl,?_⟩;rw[<-e3]at H3 hk3;have ok3:okR k.bs (cp3 k.bs cd r1 s):=by rw[e3];exact okc2
  refine zb.mono (CY hib Gb.es hxb L H3 hk3 (xW dd).2) ?_;rintro _ h4 ⟨rfl,H4⟩;have e4:tk k.bs (xW dd).2 (cp3 k.bs cd r1 s)=cp4 k.bs cd r1 s:=by unfold cp4;rw[hdd,vV]
  have n4:=yl (bs:=k.bs) (n:=(xW dd).2) (r:=cp3 k.bs cd r1 s);have okc4:okR k.bs (cp4 k.bs cd r1 s).1:=yp ok3;rw[e4]at H4 n4 ⊢;refine⟨_,zG (cp4 k.bs cd r1 s).1.k,zc,by rw[zc],fun hz=>?_,fun hz=>?_⟩
  ·rw[zc,zy]at hz;have hk4:(cp4 k.bs cd r1 s).1.k≠0:=by simpa using hz
   rw[zc];refine bad h4 _ ?_ hk4 okc4 H4;have e5:cp5 k.bs cd k.sz r1 al s=(cp4 k.bs cd r1 s).1:=CZ hk4;unfold cpF;rw[vM (fun h=>h hk3),e5,vP hk4]
  rw[zc,zy]at hz;have hk4:(cp4 k.bs cd r1 s).1.k=0:=by simpa using hz
  have hp13:(2:Int)^(xW dd).2<=8192:=by
   rw[yG];exact_mod_cast mQ (uX (by decide) hdis.2.2) (by decide)
  have nn1':=yl (bs:=k.bs) (n:=(xo s).2) (r:=r1);have hp5:(2:Int)^(xo s).2<=32:=by
   rw[yG];exact_mod_cast mQ (uX (by decide) hlen.2.2) (by decide)
  rw[e1']at nn1';obtain⟨x4,hx4⟩:=vZ n4.1;obtain⟨x1,hx1⟩:=vZ nn1'.1;have hdist:yW k.bs cd r1 s=(xW dd).1+x4:=by unfold yW;rw[hdd,vV,hx4,vV]
  have hcl:kR k.bs r1 s=(xo s).1+x1:=by unfold kR;rw[hx1,vV]
  rw[hx4,hx1];have wd:IntKind.i64.wrap (((xW dd).1:Int)+(x4:Int))=((yW k.bs cd r1 s:Nat):Int):=by rw[hdist,i64_in _ (by omega)];omega
  have wl:IntKind.i64.wrap (((xo s).1:Int)+(x1:Int))=((kR k.bs r1 s:Nat):Int):=by rw[hcl,i64_in _ (by omega)];omega
  rw[wd,wl];have hdp:1<=yW k.bs cd r1 s/\yW k.bs cd r1 s<=40000:=by omega
  have hlp:kR k.bs r1 s<=400/\1<=kR k.bs r1 s:=by omega
  have h258:kR k.bs r1 s<=258:=by
   have e:=zb1 ⟨s,by omega⟩ (by simp only;omega);simp only at e;have hx:=nn1'.2;rw[hx1,yG]at hx;have:x1<2^(xo s).2:=by exact_mod_cast hx
   omega
  obtain⟨p,ao,co,hp,hr,hbm4,P4,N4⟩:=H4.mt;obtain⟨rd,at_,nn,hbw,R,sR,hnw⟩:=H4.rg;obtain⟨_,_,u2,u3,u4,_⟩:=yy hbm4;have hknn:nn=min al.length k.sz:=by rw[<-R.kn,jz]
  have hal:=H4.le;refine⟨by simp,_,u2,by simp,(nn:Int),by simp only[zj,zp,uE,uI];exact QS hbw R.dl,fun hgt=>?_,fun hle=>⟨by simp,_,u4,fun hgt2=>?_,fun hle2=>⟨by simp,_,u4,by simp,?_⟩⟩⟩
  ·have e5:cp5 k.bs cd k.sz r1 al s=⟨(cp4 k.bs cd r1 s).1.i,3⟩:=by
    unfold cp5 bd;rw[vP ⟨hk4,by simp only[pJ,vO];omega⟩]
   refine⟨3,(Gb.sub H4.sb).es.e3,bad h4 ⟨(cp4 k.bs cd r1 s).1.i,3⟩ ?_ (show(3:Int)≠0 by decide) (fun h=>(by cases h)) (H4.JH (show(3:Int)≠0 by decide))⟩;unfold cpF;rw[vM (fun h=>h hk3),e5,vP (show(3:Int)≠0 by decide)]
  all_goals
   have e5:cp5 k.bs cd k.sz r1 al s=(cp4 k.bs cd r1 s).1:=by
    unfold cp5 bd;rw[vM (fun h=>by have:=h.2;simp only[pJ,vO]at this;omega)]
   have ecp:cpF k.bs cd k.dl k.room k.sz r1 al s=tell k.dl k.room (cp4 k.bs cd r1 s).1 al (cpD al (yW k.bs cd r1 s) (kR k.bs r1 s)):=by
    unfold cpF;rw[vM (fun h=>h hk3),e5,vM (fun h=>h hk4)]
  ·refine⟨6,(Gb.sub H4.sb).e6,bad h4 ⟨(cp4 k.bs cd r1 s).1.i,6⟩ ?_ (show(6:Int)≠0 by decide) (fun h=>(by cases h)) (H4.JH (show(6:Int)≠0 by decide))⟩;rw[ecp];unfold tell;rw[vP hk4,vP (by rw[DN];simp only[yX]at hgt2;omega)]
  ·have ecp2:cpF k.bs cd k.dl k.room k.sz r1 al s=((cp4 k.bs cd r1 s).1,al++cpD al (yW k.bs cd r1 s) (kR k.bs r1 s)):=by
    rw[ecp];unfold tell;rw[vP hk4,vM (by rw[DN];simp only[yX]at hle2;omega)]
   have hrl:al.length-k.dl+kR k.bs r1 s<=k.room:=by simp only[yX]at hle2;omega
   have lecp:le2 r1 (cp4 k.bs cd r1 s).1:=fun h=>by
    have a3:=y7 (bs:=k.bs) (n:=(xW (cp2 k.bs cd r1 s).2.toNat).2) (r:=cp3 k.bs cd r1 s) h;have a2:=xP (w:=decide (29<(cp2 k.bs cd r1 s).2)) (r:=(cp2 k.bs cd r1 s).1) a3.1;have a1:=JD (bs:=k.bs) (cs:=cd) (r:=(cp1 k.bs r1 s).1) a2.1;have a0:=y7 (bs:=k.bs) (n:=(xo s).2) (r:=r1) a1.1;exact⟨a0.1,Int.le_trans a0.2 (Int.le_trans a1.2 (Int.le_trans a2.2 a3.2))⟩
   clear ecp e5;generalize hcp4:(cp4 k.bs cd r1 s).1=r4 at H4 hr hk4 okc4 ecp2 lecp;generalize hD:yW k.bs cd r1 s=D at hle hdp ecp2 hdist ⊢;generalize hM:kR k.bs r1 s=M at hle2 hlp h258 ecp2 hrl hcl ⊢;have hM2:=DN (al:=al) (dist:=D) (n:=M);have hDl:D<=(zZ k.sz al).length:=by rw[jz];omega
   simp only[ye,zp,uI];have hrm:IntKind.i64.wrap ((yX k al (.slice ao (k.otl al).length co) last (.pointer (some ⟨b1,0,none⟩)) (.pointer (some ⟨b2,0,none⟩))).rm-(M:Int))=(k.room:Int)-(((al++cpD al D M).length-k.dl:Nat):Int):=by
    simp only[yX,vR,hM2];rw[i64_in _ (by omega)];omega
   refine⟨kH hbm4 hsb u4,by simp,?_⟩;rw[hrm,Tx hbm4];obtain⟨h5,hh5⟩:∃h5,h5=upd h4 k.bm (zV k.a k.c k.bs p ⟨.pointer (some ⟨k.bw,0,none⟩),.slice ao (k.otl al).length co,(k.room:Int)-(((al++cpD al D M).length-k.dl:Nat):Int),last,.pointer (some ⟨b1,0,none⟩),.pointer (some ⟨b2,0,none⟩)⟩ k.T):=⟨_,rfl⟩;have eh5:upd h4 k.bm (zV k.a k.c k.bs p ⟨(yX k al (.slice ao (k.otl al).length co) last (.pointer (some ⟨b1,0,none⟩)) (.pointer (some ⟨b2,0,none⟩))).w,(yX k al (.slice ao (k.otl al).length co) last (.pointer (some ⟨b1,0,none⟩)) (.pointer (some ⟨b2,0,none⟩))).out,(k.room:Int)-(((al++cpD al D M).length-k.dl:Nat):Int),(yX k al (.slice ao (k.otl al).length co) last (.pointer (some ⟨b1,0,none⟩)) (.pointer (some ⟨b2,0,none⟩))).last,(yX k al (.slice ao (k.otl al).length co) last (.pointer (some ⟨b1,0,none⟩)) (.pointer (some ⟨b2,0,none⟩))).l,(yX k al (.slice ao (k.otl al).length co) last (.pointer (some ⟨b1,0,none⟩)) (.pointer (some ⟨b2,0,none⟩))).d⟩ k.T)=h5:=by rw[hh5];rfl
   rw[eh5];have hb5:h5 k.bm=some (zV k.a k.c k.bs p ⟨.pointer (some ⟨k.bw,0,none⟩),.slice ao (k.otl al).length co,(k.room:Int)-(((al++cpD al D M).length-k.dl:Nat):Int),last,.pointer (some ⟨b1,0,none⟩),.pointer (some ⟨b2,0,none⟩)⟩ k.T):=by rw[hh5,upd_same]
   have h54:∀z,z≠k.bm->h5 z=h4 z:=fun z hz=>by rw[hh5];exact upd_ne hz
   obtain⟨_,_,w2,w3,_⟩:=yy hb5;have s5:qaB hb h5:=by rw[hh5];exact yz H4.sb H4.nm
   have hbw5:h5 k.bw=some (yw k.sz rd at_ nn k.TW):=(h54 k.bw (uW H4.ne)).trans hbw;have P5:Part .u8 h5 (.slice ao (k.otl al).length co) (k.otl al):=P4.keep fun z hz=>h54 z (IM.xE N4 hz).1
   obtain⟨g,hg⟩:∃g,g=wo h5 [k.bw]:=⟨_,rfl⟩;have sbg:qaB hb g:=hg▸U9 s5 (fun b hb'=>by rw[uO.1 hb'];exact hnw);have sg5:qaB g h5:=hg▸Qq;have gne:∀z,z≠k.bw->g z=h5 z:=fun z hz=>by rw[hg];exact Rz (fun hm=>hz (uO.1 hm))
   have Rg:RingAt g h5 k.bw k.TW k.sz (zZ k.sz (zZ k.sz al)):=by
    rw[Mj];exact⟨rd,at_,nn,hbw5,R,sg5,hg▸MN (uO.2 rfl)⟩
   refine⟨_,_,_,w3,by simp,_,w2,?_⟩;refine zb.mono (Yn (hib.sub sbg) Rg (D:Int) (M:Int) (by omega) (by omega) (by rw[jz]at hDl;omega) (by omega) (by rw[jz];omega)) ?_;rintro v6 h6 ⟨O6,N6,R6⟩;rw[vV,vV,Om hdp.1 hDl,R4 hdp.1 hDl]at R6;rw[vV,vV,Om hdp.1 hDl,R4 hdp.1 hDl,List.drop_left]at O6;rw[CC]at R6;obtain⟨rd6,at6,nn6,hbw6,RS6,sg6,_⟩:=R6;have hkeep:∀z,z≠k.bw->h5 z≠none->h6 z=h5 z:=fun z hz hn=>by
    cases e:h5 z with
    | none=>exact absurd e hn
    | some o=>exact sg6 z o ((gne z hz).trans e)
   have hb6:=(hkeep k.bm H4.ne (by rw[hb5];simp)).trans hb5;obtain⟨_,_,x2,x3,_⟩:=yy hb6;have P6:Part .u8 h6 (.slice ao (k.otl al).length co) (k.otl al):=P5.keep fun z hz=>hkeep z (IM.xE N4 hz).2.1 (tB.Oheld P5 (show tB.B _ z from hz))
   obtain⟨a6,c6,rfl,_,g6'⟩:=Part.ints O6;refine⟨_,_,_,rfl,fun pp hpp=>?_,?_⟩
   ·obtain rfl:=uO.1 hpp;simp only[Ex.ev,coerce,zd,zi,ze,zj,zN,vA,vB,uE,zp,zj]
    first | exact x3 | (simp[zp];exact x3)
   have hdl2:(k.otl al).length<=300000:=by rw[KC.Tv];omega
   refine zI hib (sbg.trans sg6) P6 (fun z hz=>(IM.xE N4 hz).2.2) g6' (by omega) fun v7 h7 o7 n7 s7 k7 r7=>?_
   obtain⟨a7,c7,rfl,_,_⟩:=o7.ints;have hb7:=(k7 k.bm (by rw[hb6];simp) (fun e=>(IM.xE N4 e).1 rfl)).trans hb6;have hbw7:=(k7 k.bw (by rw[hbw6];simp) (fun e=>(IM.xE N4 e).2.1 rfl)).trans hbw6;obtain⟨_,_,_,y3,_⟩:=yy hb7;simp only[ze,zd,zi];refine⟨by simp,kH hb7 hsb y3,?_⟩;rw[Rx hb7];have ed:k.otl (al++cpD al D M)=k.otl al++cpD al D M:=KC.Tw hal.1;have nv:∀z,zf (.slice a7 (k.otl al++cpD al D M).length c7)=some z->z≠k.bm/\z≠k.bw:=fun z hz=>by
    rcases r7 with r7 | r7
    ·have:=IM.xE N4 (r7▸hz);exact⟨this.1,this.2.1⟩
    ·have:=r7 z hz;exact⟨fun e=>(by rw[e,hb6]at this;cases this),fun e=>(by rw[e,hbw6]at this;cases this)⟩
   obtain⟨h8,hh8⟩:∃h8,h8=upd h7 k.bm (zV k.a k.c k.bs p ⟨.pointer (some ⟨k.bw,0,none⟩),.slice a7 (k.otl al++cpD al D M).length c7,(k.room:Int)-(((al++cpD al D M).length-k.dl:Nat):Int),last,.pointer (some ⟨b1,0,none⟩),.pointer (some ⟨b2,0,none⟩)⟩ k.T):=⟨_,rfl⟩;rw[<-hh8];have s8:qaB hb h8:=by rw[hh8];exact yz s7 H4.nm
   have h87:∀z,z≠k.bm->h8 z=h7 z:=fun z hz=>by rw[hh8];exact upd_ne hz
   have H8:IM hb h8 k r4 (al++cpD al D M) last (.pointer (some ⟨b1,0,none⟩)) (.pointer (some ⟨b2,0,none⟩)):=by
    refine⟨⟨p,a7,c7,hp,hr,?_,?_,?_⟩,⟨rd6,at6,nn6,(h87 k.bw (uW H4.ne)).trans hbw7,RS6,s8,hnw⟩,H4.nm,H4.ne,s8,?_⟩
    ·rw[hh8,upd_same,ed];rfl
    ·rw[ed];exact o7.keep fun z hz=>h87 z (nv z hz).1
    ·rw[ed];exact fun z hz=>Ag.2 ⟨by simp[(nv z hz).1,(nv z hz).2],n7 z hz⟩
    ·rw[vR,hM2];omega
   have ez:zG r4.k=.nilIface:=by rw[hk4];rfl
   have hle4:=(lecp hk4).2;refine⟨fnV k yO,r4,_,hb,last,_,_,by rw[ez];rfl,sb,H8,okc4,fun h=>absurd hk4 h,fun _=>⟨_,(by have hm:=JG (k:=k) (r:=r) (rr:=r4) (m:=1) (by omega) (okc4 hk4).2;omega:mz k r4+2<B),f,by omega,.inr (.inr (.inr (.inr (.inl ⟨rfl,rfl,_,_,f2,TA,by push_cast at hf';omega,by rw[hF,est,ecp2]⟩))))⟩⟩
end
end
section
section
variable {k:KC}{Fin:Rd × List Int}
def BL(h0:qaA)(k:KC)(F:Nat)(Fin:Rd×List Int)(v:Value)(h:qaA)(n:Nat):Prop:=
 ∃(r:Rd) (al:List Int) (hb:qaA) (last:Bool) (l d:Value),qaB h0 hb/\IM hb h k r al last l d/\r.k=0/\okR k.bs r/\zb0 h0 hb k F Fin v r al last l d n
def R8(h0:qaA)(k:KC)(Fin:Rd×List Int)(v:Value)(h':qaA):Prop:=
 ∃(hb:qaA) (last:Bool) (l d:Value),v=zG Fin.1.k/\qaB h0 hb/\IM hb h' k Fin.1 Fin.2 last l d/\okR k.bs Fin.1
theorem least{P:Nat->Prop}:∀n,P n->∃m,P m/\∀j,P j->m<=j
 | n,h=>by
  by_cases hs:∃j,j<n/\P j
  ·obtain⟨j,hj,hp⟩:=hs;exact least j hp
  ·exact⟨n,h,fun j hp=>Nat.le_of_not_lt fun hl=>hs ⟨j,hl,hp⟩⟩
open Classical in
noncomputable def runM (h0:qaA) (k:KC) (F:Nat) (Fin:Rd×List Int) (v:Value) (h:qaA):Nat:=if H:∃n,BL h0 k F Fin v h n/\∀j,BL h0 k F Fin v h j->n<=j then Classical.choose H else 0
theorem Pm(H:BL h0 k F Fin v h n):BL h0 k F Fin v h (runM h0 k F Fin v h)/\runM h0 k F Fin v h<=n:=by
 have e:=least n H;unfold runM;rw[dif_pos e];exact⟨(Classical.choose_spec e).1,(Classical.choose_spec e).2 n H⟩
theorem zcE(hi:qaC S h0)(G:ErrL h0)(hro:k.room<=200000)(hdl:k.dl<=40000)(hsz:1<=k.sz/\k.sz<=32768)(hx:zk h0 .u8 k.a k.bs)(L:k.bs.length<=1048576)(hFl:8*k.bs.length+1<=F){n0:Nat}(H0:BL h0 k F Fin (fnV k yC) h n0) :
  zb oPP S wG #[.pointer (some ⟨k.bm,0,none⟩),.func (.func yC) #[.pointer (some ⟨k.bm,0,none⟩)] #[]] h (R8 h0 k Fin):=by
 refine Ge (vs:=[.pointer (some ⟨k.bm,0,none⟩),.func (.func yC) #[.pointer (some ⟨k.bm,0,none⟩)] #[]]) ⟨rfl,rfl,trivial⟩ (hi.sub (by obtain⟨_,_,hb,_,_,_,s,H,_⟩:=H0;exact s.trans H.sb)) ?_;simp only[BU,Tr.wp,z8,Ex.ev,coerce,za,Cst.val,SV.den,zq,zK,zz,zm,zl,zw,zY,vF,vG,vA,vB,vC,vD,vE,vJ,vI,vK,uB,uF,uE,uJ,vY,vL];refine⟨fun us h'=>∃v n,us=[v]/\BL h0 k F Fin v h' n,fun us h'=>runM h0 k F Fin (us.getD 0 undef) h',⟨_,n0,rfl,H0⟩,?_⟩;rintro v hfv h' ⟨v',n,hx1,HR⟩;obtain rfl:v=v':=by simpa using hx1
 obtain⟨⟨r,al,hb,last,l,d,sb,H,hk,ok,HO⟩,_⟩:=Pm HR;obtain⟨m,hm⟩:∃m,m=runM h0 k F Fin v h':=⟨_,rfl⟩;rw[<-hm]at HO;have fin:∀v1 h1,Fo h0 k F Fin m v1 h1->∃v_2,AP v_2=v_2/\∃v_3,kV v_3=v_3/\v1=.tuple #[AP v_2,kV v_3]/\((!xM (kV v_3))=true->R8 h0 k Fin (kV v_3) h1) /\
   ((!xM (kV v_3))=false->(∃v n,[AP v_2]=[v]/\BL h0 k F Fin v h1 n)/\runM h0 k F Fin (([AP v_2]:List Value).getD 0 undef) h1<runM h0 k F Fin (([v]:List Value).getD 0 undef) h'):=by
  rintro v1 h1 ⟨nx,rr,al',hb',last',l',d',rfl,sb',H',ok',hbad,hgood⟩;have hnx:AP nx=nx:=by
   by_cases hkr:rr.k=0
   ·obtain⟨n',_,f,_,hO⟩:=hgood hkr;rcases hO with⟨e,_⟩ | ⟨e,_⟩ | ⟨e,_⟩ | ⟨e,_⟩ | ⟨e,_⟩ | ⟨e,_⟩ | ⟨e,_⟩ <;> (rw[e];rfl)
   ·rcases(hbad hkr).2 with e | ⟨f,e⟩ <;> (rw[e];rfl)
  refine⟨nx,hnx,zG rr.k,zc,by rw[hnx,zc],fun hz=>?_,fun hz=>?_⟩
  ·rw[zc,zy]at hz;have hkr:rr.k≠0:=by simpa using hz
   obtain⟨e,_⟩:=hbad hkr;rw[e,zc];exact⟨hb',last',l',d',rfl,sb',H',ok'⟩
  ·rw[zc,zy]at hz;have hkr:rr.k=0:=by simpa using hz
   obtain⟨n',hn',hO⟩:=hgood hkr;have RA:BL h0 k F Fin nx h1 n':=⟨rr,al',hb',last',l',d',sb',H',hkr,ok',hO⟩;have:=(Pm RA).2;rw[hnx];refine⟨⟨nx,n',rfl,RA⟩,?_⟩;show runM h0 k F Fin nx h1<runM h0 k F Fin v h';omega
 obtain⟨f,hf,hO⟩:=HO;rcases hO with⟨rfl,em,e⟩ | ⟨rfl,em,e⟩ | ⟨rfl,em,e⟩ | ⟨rfl,em,e⟩ | ⟨rfl,em,cl,cd,f',TA,hf',e⟩ | ⟨rfl,em,e⟩ | ⟨rfl,em,e⟩
 ·refine⟨fun _=>⟨_,_,_,rfl,zb.mono (zai hi G.es hx L sb H hk ok f hf (B:=m) (by omega) e) fin⟩,fun h=>(by cases h)⟩
 ·refine⟨fun _=>⟨_,_,_,rfl,zb.mono (Yt hi G hro hdl hx L sb H hk ok f hf (B:=m) (by omega) e) fin⟩,fun h=>(by cases h)⟩
 ·refine⟨fun _=>⟨_,_,_,rfl,zb.mono (zaj hi L sb H hk ok hFl f hf (B:=m) (by omega) e) fin⟩,fun h=>(by cases h)⟩
 ·refine⟨fun _=>⟨_,_,_,rfl,zb.mono (W8 hi G.es hx L sb H hk ok hFl f hf (B:=m) (by omega) e) fin⟩,fun h=>(by cases h)⟩
 ·refine⟨fun _=>⟨_,_,_,rfl,zb.mono (WA hi G hro hdl hsz hx L sb H hk ok f hf f' hf' TA (B:=m) (by omega) e) fin⟩,fun h=>(by cases h)⟩
 ·refine⟨fun _=>⟨_,_,_,rfl,zb.mono (Yr hi sb H hk ok f hf (B:=m) (by omega) e) fin⟩,fun h=>(by cases h)⟩
 ·refine⟨fun h=>(by cases h),fun _=>⟨hb,last,l,d,?_,sb,?_,?_⟩⟩
  ·rw[e,hk];rfl
  ·rw[e];exact H
  ·rw[e];exact ok
end
end
end
section
def w32(x:Int):Int:=IntKind.u32.wrap x
def kS(p:Int×Int)(x:Int):Int×Int:=
 ((w32 (p.1+w32 x)).tmod 65521,(w32 (p.2+(w32 (p.1+w32 x)).tmod 65521)).tmod 65521)
def FH(c:Int):Int×Int:=((c.tmod 65536).tmod 65521,(w32 (c.tdiv 65536)).tmod 65521)
def DG(p:Int×Int):Int:=w32 (w32 (p.2*65536)+p.1)
def zX(c:Int)(xs:List Int):Int:=DG (xs.foldl kS (FH c))
theorem Da{α β:Type}(f:α->β->α)(p:α){xs:List β}{i:Nat}(hi:i<xs.length):(xs.take (i+1)).foldl f p=f ((xs.take i).foldl f p) xs[i]:=by
 rw[mU,vQ hi,List.foldl_append];rfl
theorem EH(hi:qaC S h)(c0:Int)(a:Option Addr)(c:Nat)(xs:List Int)(hx:zk h .u8 a xs)(hl:xs.length<=2^48) :
  zb oPP S Ac #[.int .u32 c0,.slice a xs.length c] h (fun v h'=>v=.int .u32 (zX c0 xs)/\h'=h):=by
 refine NS (vs:=[.int .u32 c0,.slice a xs.length c]) ⟨rfl,rfl,trivial⟩ hi ?_;simp only[IG,Tr.wp,Ex.ev,coerce,toInt_int,za,zd,zi,ze,zj,yg,zB,arith,Cst.val,SV.den,zw,zY,zr,vA,vB,vC,vO,vU,vD,vE,vJ,vI,uA];refine⟨fun us h'=>∃i:Nat,us=[.int .u32 ((xs.take i).foldl kS (FH c0)).1,.int .u32 ((xs.take i).foldl kS (FH c0)).2,.int .i64 i]/\i<=xs.length/\h'=h,
  fun us _=>xs.length-(toInt (us.getD 2 undef)).toNat,⟨0,rfl,by omega,rfl⟩,?_⟩
 rintro x y z h' ⟨i,hx1,hi2,rfl⟩;simp only[uQ,uT,pL,uA]at hx1;obtain⟨rfl,rfl,rfl⟩:=hx1;refine⟨fun hlt=>?_,fun hge=>?_⟩
 ·have hi3:i<xs.length:=by omega
  obtain⟨g1,g2⟩:=hx.cell (vQ hi3);have w2:IntKind.i64.wrap ((i:Int)+1)=((i+1:Nat):Int):=z9;refine⟨by simpa using g2,by omega,by omega,xs[i],by simpa[add_add]using g1,⟨i+1,?_,by omega,rfl⟩,?_⟩
  ·rw[w2,Da kS (FH c0) hi3];rfl
  ·simp only[w2,vB,vA,toInt_int,vV];omega
 ·obtain rfl:i=xs.length:=by omega
  refine⟨?_,rfl⟩;rw[nI];rfl
theorem xT(hi:qaC S h)(c0:Int)(a:Option Addr)(c:Nat)(xs:List Int)(hx:zk h .u8 a xs)(hl:xs.length<=2^48:=by omega) :
  zb oPP S yR #[.int .u32 c0,.slice a xs.length c] h (fun v h'=>v=.int .u32 (zX c0 xs)/\h'=h):=by
 refine GN (vs:=[.int .u32 c0,.slice a xs.length c]) ⟨rfl,rfl,trivial⟩ hi ?_;simp only[CG,Tr.wp,Ex.ev,coerce,toInt_int,za,zd,zi,ze,zj,yg,zB,arith,Cst.val,SV.den,zw,zY,zr,vA,vB,vC,vO,vU,vD,vE,vJ,vI,uA];refine⟨fun us h'=>∃i:Nat,us=[.int .u32 ((xs.take i).foldl kS (FH c0)).1,.int .u32 ((xs.take i).foldl kS (FH c0)).2,.int .i64 i]/\i<=xs.length/\h'=h,
  fun us _=>xs.length-(toInt (us.getD 2 undef)).toNat,⟨0,rfl,by omega,rfl⟩,?_⟩
 rintro x y z h' ⟨i,hx1,hi2,rfl⟩;simp only[uQ,uT,pL,uA]at hx1;obtain⟨rfl,rfl,rfl⟩:=hx1;refine⟨fun hlt=>?_,fun hge=>?_⟩
 ·have hi3:i<xs.length:=by omega
  obtain⟨g1,g2⟩:=hx.cell (vQ hi3);have w2:IntKind.i64.wrap ((i:Int)+1)=((i+1:Nat):Int):=z9;refine⟨by simpa using g2,by omega,by omega,xs[i],by simpa[add_add]using g1,⟨i+1,?_,by omega,rfl⟩,?_⟩
  ·rw[w2,Da kS (FH c0) hi3];rfl
  ·simp only[w2,vB,vA,toInt_int,vV];omega
 ·obtain rfl:i=xs.length:=by omega
  refine⟨?_,rfl⟩;rw[nI];rfl
theorem WB(hi:qaC S h)(a:Option Addr)(c:Nat)(xs:List Int)(hx:zk h .u8 a xs)(hl:xs.length<=2^48) :
  zb oPP S Bt #[.slice a xs.length c] h (fun v h'=>v=.int .u32 (zX 1 xs)/\qaB h h'):=by
 refine F9 (vs:=[.slice a xs.length c]) ⟨rfl,trivial⟩ hi ?_;simp only[B8,Tr.wp,z8,Ex.ev,coerce,toInt_int,zd,zi,ze,Cst.val,SV.den,zq,zK,zz,zm,zl,zw,vF,vG,vA,vB,vD,vE,vJ,vI,vK,vY,vL];refine(EH hi 1 a c xs hx hl).mono ?_;rintro _ h' ⟨rfl,rfl⟩;exact⟨_,rfl,rfl,fun _ _ h=>h⟩
end
section
def On:List Int->Int
 | []=>0
 | y::ys=>y+On ys
def Oo:List Int->Int
 | []=>0
 | y::ys=>((ys.length:Int)+1)*y+Oo ys
def okB(xs:List Int):Prop:=∀x∈xs,0<=x/\x<256
def okS(p:Int×Int):Prop:=0<=p.1/\p.1<65521/\0<=p.2/\p.2<65521
theorem WC{p:Int×Int}(hp:okS p)(hx:0<=x/\x<256):kS p x=((p.1+x)%65521,(p.2+(p.1+x)%65521)%65521)/\okS (kS p x):=by
 obtain⟨h1,h2,h3,h4⟩:=hp;have w1:w32 x=x:=by unfold w32;rw[pN];omega
 have w2:w32 (p.1+x)=p.1+x:=by unfold w32;rw[pN];omega
 have e1:(p.1+x).tmod 65521=(p.1+x)%65521:=uG (by omega);have w3:w32 (p.2+(p.1+x)%65521)=p.2+(p.1+x)%65521:=by unfold w32;rw[pN];omega
 have e2:(p.2+(p.1+x)%65521).tmod 65521=(p.2+(p.1+x)%65521)%65521:=uG (by omega);have e:kS p x=((p.1+x)%65521,(p.2+(p.1+x)%65521)%65521):=by
  unfold kS;rw[w1,w2,e1,w3,e2]
 refine⟨e,?_⟩;rw[e];exact⟨by show 0<=_%_;omega,by show _%_<_;omega,by show 0<=_%_;omega,by show _%_<_;omega⟩
theorem TB{a b k:Int}(h:a=b+65521*k):a%65521=b%65521:=by rw[h];omega
theorem R9:∀(xs:List Int) (p:Int×Int),okS p->okB xs->xs.foldl kS p=((p.1+On xs)%65521,(p.2+xs.length*p.1+Oo xs)%65521):=by
 intro xs;induction xs with
 | nil=>
  rintro⟨a,b⟩ ⟨h1,h2,h3,h4⟩ _;simp only[List.foldl_nil,On,Oo,uF]at *;simp only[uV];refine⟨?_,?_⟩ <;> omega
 | cons x xs ih=>
  intro p hp hb;obtain⟨e,ok⟩:=WC hp (hb x (by simp));rw[List.foldl_cons,ih _ ok (fun y hy=>hb y (by simp[hy])),e];simp only[On,Oo,uB,uV];have d1:(p.1+x)%65521=p.1+x-65521*((p.1+x)/65521):=by omega
  have d2:(p.2+(p.1+x)%65521)%65521=p.2+(p.1+x)%65521-65521*((p.2+(p.1+x)%65521)/65521):=by omega
  refine⟨TB (k := -((p.1+x)/65521)) (by omega),?_⟩;refine TB (k := -((p.2+(p.1+x)%65521)/65521)-((xs.length:Int)+1)*((p.1+x)/65521)) ?_;rw[d2,d1];generalize (p.1+x)/65521=u;generalize (p.2+(p.1+x-65521*u))/65521=v
  push_cast
  simp only[Int.mul_add,Int.add_mul,Int.mul_sub,Int.mul_neg,Int.one_mul];have m1:(xs.length:Int)*(65521*u)=65521*((xs.length:Int)*u):=by rw[<-lX,mM (xs.length:Int) 65521,lX]
  omega
theorem zak(h:okB xs)(h':okB ys):okB (xs++ys):=fun x hx=>(pO.1 hx).elim (h x) (h' x)
theorem Lp{p:Int×Int}(hp:okS p):DG p=p.2*65536+p.1:=by
 obtain⟨h1,h2,h3,h4⟩:=hp;unfold DG w32;rw[show IntKind.u32.wrap (p.2*65536)=p.2*65536 by rw[pN];omega,pN];omega
def MQ(p q n:Int):Int:=
 IntKind.u32.wrap (IntKind.i64.wrap (IntKind.i64.wrap ((IntKind.i64.wrap ((IntKind.i64.wrap (IntKind.i64.wrap (IntKind.i64.wrap ((IntKind.u32.wrap (p.tdiv 65536)).tmod 65521)+IntKind.i64.wrap ((IntKind.u32.wrap (q.tdiv 65536)).tmod 65521)) +
  IntKind.i64.wrap (n*IntKind.i64.wrap (IntKind.i64.wrap ((p.tmod 65536).tmod 65521)-1)))).tmod 65521+65521)).tmod 65521*65536) +
  (IntKind.i64.wrap (IntKind.i64.wrap (IntKind.i64.wrap (IntKind.i64.wrap ((p.tmod 65536).tmod 65521)+IntKind.i64.wrap ((q.tmod 65536).tmod 65521))-1)+65521)).tmod 65521))
theorem WE{p q:Int×Int}(hp:okS p)(hq:okS q){n:Int}(h0:0<=n)(hn:n<=1000000) :
  MQ (DG p) (DG q) n=((p.2+q.2+n*(p.1-1))%65521)*65536+(p.1+q.1-1)%65521:=by
 rw[Lp hp,Lp hq];obtain⟨h1,h2,h3,h4⟩:=hp;obtain⟨k1,k2,k3,k4⟩:=hq;have t1:∀x:Int,0<=x->∀m:Int,x.tmod m=x%m:=fun x hx m=>uG hx
 have a1:(p.2*65536+p.1).tmod 65536=p.1:=by rw[t1 _ (by omega)];omega
 have a2:(q.2*65536+q.1).tmod 65536=q.1:=by rw[t1 _ (by omega)];omega
 have b1:(p.2*65536+p.1).tdiv 65536=p.2:=by rw[uL (by omega)];omega
 have b2:(q.2*65536+q.1).tdiv 65536=q.2:=by rw[uL (by omega)];omega
 have c1:∀x:Int,0<=x->x<65521->x.tmod 65521=x:=fun x hx hy=>by rw[t1 _ hx];omega
 have u1:∀x:Int,0<=x->x<65521->IntKind.u32.wrap x=x:=fun x hx hy=>by rw[pN];omega
 have i1:∀x:Int,-4611686018427387904<=x->x<4611686018427387904->IntKind.i64.wrap x=x:=fun x hx hy=>by rw[lA];omega
 unfold MQ;rw[a1,a2,b1,b2,u1 p.2 h3 h4,u1 q.2 k3 k4,c1 p.1 h1 h2,c1 q.1 k1 k2,c1 p.2 h3 h4,c1 q.2 k3 k4,i1 p.1 (by omega) (by omega),i1 q.1 (by omega) (by omega),i1 p.2 (by omega) (by omega),i1 q.2 (by omega) (by omega),
  i1 (p.1-1) (by omega) (by omega),i1 (p.2+q.2) (by omega) (by omega),i1 (p.1+q.1) (by omega) (by omega),i1 (p.1+q.1-1) (by omega) (by omega),i1 (p.1+q.1-1+65521) (by omega) (by omega)]
 have nb1 : -1000000<=n*(p.1-1):=by
  rcases(by omega:p.1<1\/1<=p.1)with h | h
  ·have:p.1-1 = -1:=by omega
   rw[this];omega
  ·have:=Int.mul_nonneg h0 (show 0<=p.1-1 by omega);omega
 have nb2:n*(p.1-1)<=1000000*65521:=by
  rcases(by omega:p.1<1\/1<=p.1)with h | h
  ·have:p.1-1 = -1:=by omega
   rw[this];omega
  ·exact Int.mul_le_mul hn (by omega) (by omega) (by omega)
 generalize n*(p.1-1)=m at nb1 nb2;rw[i1 m (by omega) (by omega),i1 (p.2+q.2+m) (by omega) (by omega)];have tm:(p.2+q.2+m).tmod 65521=p.2+q.2+m-65521*(p.2+q.2+m).tdiv 65521:=by have:=Int.tmod_add_mul_tdiv (p.2+q.2+m) 65521;omega
 have tl:=Int.lt_tmod_of_pos (p.2+q.2+m) (show(0:Int)<65521 by omega);have tu:=Int.tmod_lt_of_pos (p.2+q.2+m) (show(0:Int)<65521 by omega);generalize (p.2+q.2+m).tdiv 65521=v at tm;generalize (p.2+q.2+m).tmod 65521=z at tm tl tu;rw[i1 (z+65521) (by omega) (by omega),t1 (z+65521) (by omega),t1 (p.1+q.1-1+65521) (by omega)];have e1:(z+65521)%65521=(p.2+q.2+m)%65521:=by omega
 have e2:(p.1+q.1-1+65521)%65521=(p.1+q.1-1)%65521:=by omega
 rw[e1,e2];generalize hB:(p.2+q.2+m)%65521=B;generalize hA:(p.1+q.1-1)%65521=A;have:0<=B/\B<65521/\0<=A/\A<65521:=by omega
 rw[i1 (B*65536) (by omega) (by omega),i1 _ (by omega) (by omega),pN];omega
theorem Oq{p:Int×Int}(hp:okS p)(hb:okB xs):okS (xs.foldl kS p):=by
 rw[R9 xs p hp hb];exact⟨by show 0<=_%_;omega,by show _%_<_;omega,by show 0<=_%_;omega,by show _%_<_;omega⟩
theorem Yv:FH 1=(1,0):=by decide
theorem zal{c:Int}(h:0<=c/\c<4294967296):okS (FH c):=by
 unfold FH w32;rw[uL h.1,uG h.1,pN,uG (by omega),uG (by omega)];exact⟨by show 0<=_%_;omega,by show _%_<_;omega,by show 0<=_%_;omega,by show _%_<_;omega⟩
theorem UA{p:Int×Int}(hp:okS p)(hb:okB ys)(hn:ys.length<=1000000):MQ (DG p) (zX 1 ys) ys.length=DG (ys.foldl kS p):=by
 have h1:okS (1,0):=⟨by decide,by decide,by decide,by decide⟩;unfold zX;rw[Yv,WE hp (Oq h1 hb) (by omega) (by omega),Lp (Oq hp hb),R9 ys p hp hb,R9 ys (1,0) h1 hb];simp only[];have e1:(p.2+(0+(ys.length:Int)*1+Oo ys)%65521+(ys.length:Int)*(p.1-1))%65521=(p.2+(ys.length:Int)*p.1+Oo ys)%65521:=by
  rw[Int.mul_sub,Int.mul_one];omega
 have e2:(p.1+(1+On ys)%65521-1)%65521=(p.1+On ys)%65521:=by omega
 rw[e1,e2]
end
variable {u1:Value}
section
abbrev qY:=Int×List Int×Int×Unit
def kz:Ty Value qY:=Mh (kL (Cs .i64) (kL tB (kL (Cs .i64) (Mf))))
theorem MT{x:qY}(H:kz.O h v x):∃u1,v=.agg #[Value.int .i64 x.1,u1,Value.int .i64 x.2.2.1]/\tB.O h u1 x.2.1:=by
 obtain⟨_,rfl,_,_,rfl,(rfl:_=_),⟨u1,_,rfl,H1,⟨_,_,rfl,(rfl:_=_),⟨rfl⟩,d2⟩,d1⟩,d0⟩:=H;exact⟨u1,rfl,H1⟩
theorem Je{x:qY}(H1:tB.O h u1 x.2.1):kz.O h (.agg #[Value.int .i64 x.1,u1,Value.int .i64 x.2.2.1]) x:=by
 unfold kz;simp only[ZH,XI,ZK,ZM,QQ,SZ,SY,nA,mI,implies_true,uA,pL,forall_false]
 first | exact H1 | simp_all
theorem MU{x:qY}:kz.B (.agg #[Value.int .i64 x.1,u1,Value.int .i64 x.2.2.1]) b<->tB.B u1 b:=by
 unfold kz;simp only[ZI,QQ,SZ,SY,false_or,nA]
variable {w : Value}{x:qY}
end
variable {k:Int}{us:List Int}{h1:qaA}
section
def hig(bs:List Int):Nat->Rd->Int->Rd×Int
 | 0,r,x=>(r,x)
 | n+1,r,x=>hig bs n (tk bs 8 r).1 (256*x+(tk bs 8 r).2)
def bdK(k:Int)(w:Bool)(r:Rd):Rd:=if r.k=0/\w=true then⟨r.i,k⟩else r
theorem Gs(h:r.k≠0):bdK k w r=r:=by unfold bdK;rw[vM (fun e=>h e.1)]
theorem EI(hk:k≠0)(H:okR bs r):okR bs (bdK k w r):=by
 unfold bdK;split
 ·intro h;exact absurd h hk
 ·exact H
theorem UB(hk:k≠0)(h:(bdK k w r).k=0):r.k=0/\w=false/\bdK k w r=r:=by
 unfold bdK at h ⊢;split
 ·rename_i hc;rw[vP hc]at h;exact absurd h hk
 ·rename_i hc;rw[vM hc]at h;refine⟨h,?_,rfl⟩;cases w with
  | false=>rfl
  | true=>exact absurd ⟨h,rfl⟩ hc
theorem MV:∀ {n:Nat} {r:Rd} {x:Int},okR bs r->okR bs (hig bs n r x).1
 | 0,r,x,H=>H
 | n+1,r,x,H=>by unfold hig;exact MV (yp H)
theorem As(h:r.k≠0):tk bs n r=(r,0):=by unfold tk;rw[vM h]
theorem Gt:∀ {n:Nat} {r:Rd} {x:Int},r.k≠0->(hig bs n r x).1=r
 | 0,r,x,H=>rfl
 | n+1,r,x,H=>by
  unfold hig;have e:tk bs 8 r=(r,0):=As H;rw[e];exact Gt H
theorem TC{bs:List Int}:∀ {n:Nat} {r:Rd} {x:Int} {m:Int},0<=x->x<m->0<=(hig bs n r x).2/\(hig bs n r x).2<m*256^n
 | 0,r,x,m,h0,h1=>by simp[hig];exact⟨h0,h1⟩
 | n+1,r,x,m,h0,h1=>by
  unfold hig;have nm:=yl (bs:=bs) (n:=8) (r:=r);have e8:(2:Int)^8=256:=by decide
  rw[e8]at nm;have:=TC (bs:=bs) (n:=n) (r:=(tk bs 8 r).1) (x:=256*x+(tk bs 8 r).2) (m:=256*m) (by omega) (by omega);refine⟨this.1,?_⟩;have e:m*256^(n+1)=256*m*256^n:=by rw[mA];ac_rfl
  rw[e];exact this.2
theorem UC:∀ {n:Nat} {r:Rd} {x:Int},(hig bs n r x).1.k=0->r.k=0
 | 0,r,x,H=>H
 | n+1,r,x,H=>by unfold hig at H;exact BI (UC H)
theorem TD(h:r.k≠0):alg r=r:=by unfold alg;rw[vM h]
def zE(bs:List Int)(sz:Nat)(us:List Int)(r:Rd):Rd×List Int:=blF bs (zZ sz us).length 100000 sz (8*bs.length+1) (8*bs.length+1) r (zZ sz us)
def zO(bs:List Int)(sz:Nat)(us:List Int)(r:Rd):List Int:=(zE bs sz us r).2.drop (zZ sz us).length
def zT(bs:List Int)(sz:Nat)(us:List Int)(r:Rd):Rd×Int:=hig bs 4 (alg (zE bs sz us r).1) 0
def zF(bs:List Int)(sz:Nat)(us:List Int)(r:Rd):Rd:=bdK 4 ((zT bs sz us r).2 != zX 1 (zO bs sz us r)) (zT bs sz us r).1
def zA(bs:List Int)(sz:Nat)(us:List Int)(r:Rd):qY:=if(zF bs sz us r).k≠0 then((zF bs sz us r).k,zO bs sz us r,0,())else(1,zO bs sz us r,(zF bs sz us r).i/8,())
def zH(bs:List Int):Rd×Int:=hig bs 2 ⟨0,0⟩ 0
def zW(x:Int):Bool:=x%31 != 0||x/256%16 != 8||decide (7<x/4096)
def zR(bs:List Int):Rd:=bd (zW (zH bs).2) (zH bs).1
def zS(x:Int):Nat:=if x/4096<=7 then 2^(x/4096+8).toNat else 32768
def zId(bs:List Int):Rd×Int:=hig bs 4 (zR bs) 0
def zD(bs ds:List Int):Rd×List Int:=
 if(zH bs).2/32%2=1 then(bdK 5 (decide (ds.length=0)||(zX 1 ds != (zId bs).2)) (zId bs).1,ds)else(zR bs,[])
def xH(bs ds:List Int):qY:=if bs.length>65536 then(7,[],0,())else zA bs (zS (zH bs).2) (zD bs ds).2 (zD bs ds).1
theorem zb3(h:r.k≠0):zA bs sz us r=(r.k,[],0,()):=by
 have e1:zE bs sz us r=(r,zZ sz us):=Oi h;have e2:zO bs sz us r=[]:=by unfold zO;rw[e1];exact List.drop_length
 have e3:(zT bs sz us r).1=r:=by unfold zT;rw[e1];simp only;rw[TD h,Gt h]
 have e4:zF bs sz us r=r:=by unfold zF;rw[e3,Gs h]
 unfold zA;rw[e4,vP h,e2]
theorem TG(s:qaB h0 h'):kz.O h' (.agg #[.int .i64 k,.slice none 0 0,.int .i64 0]) (k,[],0,())/\kz.New h0 (.agg #[.int .i64 k,.slice none 0 0,.int .i64 0])/\qaB h0 h':=
 ⟨Je (x:=(k,[],0,())) Part.nil,fun b hb=>(by have:=(MU (x:=(k,[],0,()))).1 hb;cases this),s⟩
theorem Qr{k n:Int}(P:Part .u8 h' v xs)(N:qaD h0 v)(s:qaB h0 h'):kz.O h' (.agg #[.int .i64 k,v,.int .i64 n]) (k,xs,n,())/\kz.New h0 (.agg #[.int .i64 k,v,.int .i64 n])/\qaB h0 h':=
 ⟨Je (x:=(k,xs,n,())) P,fun b hb=>N b ((MU (x:=(k,xs,n,()))).1 hb),s⟩
def PZ(h0:qaA)(x:qY)(v:Value)(h':qaA):Prop:=kz.O h' v x/\kz.New h0 v/\qaB h0 h'
theorem Lq(hi:qaC S h)(hx:zk h .u8 a bs)(L:bs.length<=1048576)(r:Rd)(ok:okR bs r)(n:Nat)(hn:n<=4:=by omega) :
  zb oPP S w7 #[rdV a c bs r,.int .i64 n] h (fun v h'=>v=.tuple #[rdV a c bs (hig bs n r 0).1,.int .i64 (hig bs n r 0).2]/\h'=h):=by
 refine M4 (vs:=[.slice a bs.length c,.int .i64 r.i,.int .i64 r.k,.int .i64 n]) ⟨rfl,rfl,rfl,rfl,trivial⟩ hi ?_;simp only[HL,Tr.wp,z8,Ex.ev,coerce,toInt_int,za,zd,zi,ze,zB,arith,Cst.val,SV.den,zq,zK,zz,zm,zl,zw,zY,vF,vG,vA,vB,vC,vO,vU,vD,vE,vJ,vI,vK,uB,uF,uE,uJ,vY,vL];refine⟨fun us h'=>∃(j:Nat) (r':Rd) (x:Int),us=[.int .i64 x,.int .i64 j,.slice a bs.length c,.int .i64 r'.i,.int .i64 r'.k]/\j<=n/\okR bs r'/\0<=x/\x<256^j/\hig bs (n-j) r' x=hig bs n r 0/\h'=h,fun us _=>n-(toInt (us.getD 1 undef)).toNat,⟨0,r,0,rfl,by omega,ok,by omega,by simp,by simp,rfl⟩,?_⟩;rintro x0 x1 b1 m1 d1 x2 x3 h' ⟨j,r',x,hx1,hj,ok',g0,g1,e,rfl⟩;simp only[uQ,uT,pA,pL,uA]at hx1;obtain⟨rfl,rfl,⟨rfl,rfl,rfl⟩,rfl,rfl⟩:=hx1;refine⟨fun hlt=>?_,fun hge=>?_⟩
 ·have hjn:j<n:=by omega
  refine(yA hi hx L r' ok' 8).mono ?_;rintro _ h2 ⟨rfl,rfl⟩;have nm:=yl (bs:=bs) (n:=8) (r:=r');have e8:(2:Int)^8=256:=by decide
  rw[e8]at nm;have hp:(256:Int)^j<=256^3:=by
   have:((256^j:Nat):Int)<=((256^3:Nat):Int):=by exact_mod_cast uX (by decide) (show j<=3 by omega)
   simpa using this
  have e3:(256:Int)^3=16777216:=by decide
  have w1:IntKind.i64.wrap (IntKind.i64.wrap (256*x0)+(tk bs 8 r').2)=256*x0+(tk bs 8 r').2:=by
   rw[i64_in (256*x0) (by omega),i64_in _ (by omega)]
  have w2:IntKind.i64.wrap ((j:Int)+1)=((j+1:Nat):Int):=z9;refine⟨_,_,_,_,_,_,rfl,?_⟩;rw[w1,w2];refine⟨⟨j+1,(tk bs 8 r').1,_,rfl,by omega,yp ok',by omega,by rw[mA];omega,?_,rfl⟩,by simp only[vB,vA,toInt_int];omega⟩;rw[<-e,show n-j=n-(j+1)+1 by omega];rfl
 ·obtain rfl:j=n:=by omega
  rw[mS]at e;rw[<-e];exact⟨rfl,rfl⟩
theorem K9(hi:qaC S h)(a:Option Addr)(c:Nat)(L:bs.length<=1048576)(r:Rd)(ok:okR bs r) :
  zb oPP S qM #[rdV a c bs r] h (fun v h'=>v=rdV a c bs (alg r)/\h'=h):=by
 refine II (vs:=[.slice a bs.length c,.int .i64 r.i,.int .i64 r.k]) ⟨rfl,rfl,rfl,trivial⟩ hi ?_;simp only[Eu,Tr.wp,Ex.ev,coerce,toInt_int,za,zd,zi,ze,kp,zB,arith,Cst.val,SV.den,vA,vB,vD,vE,uA];obtain⟨i,k⟩:=r;unfold alg rdV;by_cases h0:k=0
 ·have:=ok h0;simp only at this;subst h0;have w:IntKind.i64.wrap (IntKind.i64.wrap ((IntKind.i64.wrap (i+7)).tdiv 8)*8)=(i+7)/8*8:=by
   rw[i64_in (i+7) (by omega),uL (by omega),i64_in ((i+7)/8) (by omega),i64_in _ (by omega)]
  simp[w]
 ·simp[h0]
theorem JI(hi:qaC S h)(a:Option Addr)(c:Nat)(bs:List Int)(r:Rd)(w:Bool) :
  zb oPP S qy #[rdV a c bs r,.bool w] h (fun v h'=>v=rdV a c bs (bdK 4 w r)/\h'=h):=by
 refine NT (vs:=[.slice a bs.length c,.int .i64 r.i,.int .i64 r.k,.bool w]) ⟨rfl,rfl,rfl,rfl,trivial⟩ hi ?_;simp only[IJ,Tr.wp,Ex.ev,coerce,toInt_int,za,zd,zi,ze,xu,kp,zB,Cst.val,SV.den,vA,vB,vD,vE,uA];obtain⟨i,k⟩:=r;unfold bdK rdV;by_cases h0:k=0
 ·subst h0;cases w <;> simp
 ·simp[h0]
theorem Pn(xs:List Int):IntKind.i64.wrap (zX 1 xs)=zX 1 xs:=by
 have:0<=zX 1 xs/\zX 1 xs<4294967296:=by unfold zX DG w32;rw[pN];omega
 exact i64_in _ (by omega)
theorem Lr(hsz:sz<=32768):(zZ sz us).length<=32768/\(zZ sz us).length<=(zE bs sz us r).2.length/\(zE bs sz us r).2.length<=(zZ sz us).length+100000:=by
 have h1:(zZ sz us).length<=32768:=by rw[jz];omega
 have:=JF (bs:=bs) (dl:=(zZ sz us).length) (room:=100000) (sz:=sz) (F:=8*bs.length+1) (f:=8*bs.length+1) (r:=r) (al:=zZ sz us) (uN _) (by omega);exact⟨h1,this.1,this.2⟩
theorem Zf(hi:qaC S h)(s:qaB h h1)(hx:zk h .u8 a bs)(L:bs.length<=65536)(r:Rd)(ok:okR bs r)(hsz:sz<=32768)
  {au:Option Addr}{cu:Nat}(hu:zk h1 .u8 au us)(hcu:us.length<=cu)(hul:us.length<=1048576)(K0:Kt)(e0 e1 e2 e3 e4 e5 e6 e7 e8 e10 e11:Value) :
  zsE.wp oPP S yk (PZ h (zA bs sz us r)) [e0,e1,e2,e3,e4,e5,e6,e7,e8,.int .i64 sz,e10,e11,.slice au us.length cu,.slice a bs.length c,.int .i64 r.i,.int .i64 r.k] h1 [K0]:=by
 simp only[zsE,Tr.wp,z8,Ex.ev,coerce,toInt_int,za,zd,zi,ze,zB,arith,Cst.val,SV.den,zq,zK,zz,zm,zl,zw,vF,vG,vA,vB,vD,vE,vJ,vI,vK,uB,uF,uE,uJ,vY,vL];obtain⟨f1,f2,f3⟩:=Lr (bs:=bs) (us:=us) (r:=r) hsz;have i1:=hi.sub s;have hx1:=hx.sub s;refine(Pl i1 au cu us sz 100000 hcu (by omega) hsz hu).mono ?_;rintro _ h2 ⟨a3,c3,rfl,P3,N3,s3⟩;refine⟨_,_,_,_,_,_,rfl,?_⟩;have K:=ML (c:=c) (dl:=(zZ sz us).length) (sz:=sz) (room:=100000) i1 s3 hx1 (by omega) r ok P3 N3 (uN _) (by omega) (by omega) (by omega) (by omega) (8*bs.length+1) (uN _) (8*bs.length+1) (uN _);refine zb.mono K ?_;rintro _ h4 ⟨a4,c4,rfl,P4,N4,s4⟩;have eF:blF bs (zZ sz us).length 100000 sz (8*bs.length+1) (8*bs.length+1) r (zZ sz us)=zE bs sz us r:=rfl;have okE:okR bs (zE bs sz us r).1:=MM ok;rw[eF]at P4 N4 ⊢;refine⟨_,_,_,_,_,_,_,_,_,_,_,rfl,?_⟩;refine zb.mono (Tu (dl:=(zZ sz us).length) (sz:=sz) (room:=100000) i1 s4 P4 f2) ?_;rintro v5 h5 ⟨P5,N5,s5⟩;have eO:(zE bs sz us r).2.drop (zZ sz us).length=zO bs sz us r:=rfl;rw[eO]at P5;obtain⟨a5,c5,rfl,hc5,g5⟩:=P5.ints;refine⟨_,_,_,rfl,?_⟩;refine zb.mono (K9 (i1.sub s5) a c (show bs.length<=1048576 by omega) (zE bs sz us r).1 okE) ?_;rintro _ h6 ⟨rfl,rfl⟩;refine⟨_,_,_,_,_,rfl,?_⟩;refine zb.mono (Lq (c:=c) (i1.sub s5) (hx1.sub s5) (by omega) (alg (zE bs sz us r).1) (BK okE) 4) ?_;rintro _ h6 ⟨rfl,rfl⟩;refine⟨_,_,_,_,_,_,rfl,?_⟩;have hO:(zO bs sz us r).length<=100000:=by unfold zO;rw[pM];omega
 refine zb.mono (xT (i1.sub s5) 1 a5 c5 (zO bs sz us r) g5) ?_;rintro _ h6 ⟨rfl,rfl⟩;refine⟨_,rfl,?_⟩;have eT:hig bs 4 (alg (zE bs sz us r).1) 0=zT bs sz us r:=rfl;rw[eT,Pn];refine zb.mono (JI (i1.sub s5) a c bs (zT bs sz us r).1 ((zT bs sz us r).2 != zX 1 (zO bs sz us r))) ?_;rintro _ h6 ⟨rfl,rfl⟩;have eZ:bdK 4 ((zT bs sz us r).2 != zX 1 (zO bs sz us r)) (zT bs sz us r).1=zF bs sz us r:=rfl;rw[eZ];have okF:okR bs (zF bs sz us r):=EI (by decide) (MV (BK okE));have N5':qaD h (.slice a5 (zO bs sz us r).length c5):=fun z hz=>zU s (N5 z hz)
 refine⟨_,_,_,_,_,rfl,fun hne=>?_,fun heq=>?_⟩
 ·have hk:(zF bs sz us r).k≠0:=by simpa using hne
  have e:zA bs sz us r=((zF bs sz us r).k,zO bs sz us r,0,()):=vP hk;rw[e];exact Qr P5 N5' (s.trans s5)
 ·have hk:(zF bs sz us r).k=0:=by simpa using heq
  have e:zA bs sz us r=(1,zO bs sz us r,(zF bs sz us r).i/8,()):=vM (fun h=>h hk);have:=okF hk;have w:IntKind.i64.wrap ((zF bs sz us r).i.tdiv 8)=(zF bs sz us r).i/8:=by rw[uL (by omega),i64_in _ (by omega)]
  rw[e,w];exact Qr P5 N5' (s.trans s5)
end
section
theorem okB_drop'(H:okB xs)(n:Nat):okB (xs.drop n):=fun x hx=>H x (gU hx)
theorem JJ:okB []:=fun x hx=>by cases hx
theorem TH(h:0<=x/\x<256:=by omega):okB [x]:=fun y hy=>by rw[uO.1 hy];exact h
section
theorem Ls{al d:List Int}(H:okB al)(G:okB d):okB (tell dl room r al d).2:=by
 unfold tell;split
 ·split
  ·exact H
  ·exact zak H G
 ·exact H
theorem zam(H:okB al):okB (cpD al dist n):=fun x hx=>by
 unfold cpD at hx;obtain⟨k,_,rfl⟩:=pX.1 hx;rw[uK];cases hg:al[al.length-dist+k%dist]? with
 | none=>simp
 | some y=>exact H y (mP hg)
theorem TJ:∀ {n:Nat} {r:Rd} {al:List Int},okB al->okB (stL bs dl room n r al).2
 | 0,r,al,H=>H
 | n+1,r,al,H=>by
  unfold stL;split
  ·have nm:=yl (bs:=bs) (n:=8) (r:=r);have e8:(2:Int)^8=256:=by decide
   exact TJ (Ls H (TH))
  ·exact H
theorem zan{s:Nat}(H:okB al):okB (cpF bs cd dl room sz r al s).2:=by
 unfold cpF;split
 ·exact H
 ·split
  ·exact H
  ·exact Ls H (zam H)
theorem zao(hx:0<=x)(H:okB al):okB (sy1 bs cd dl room sz r al x).2:=by
 unfold sy1;split
 ·exact Ls H (TH)
 ·split
  ·exact H
  ·exact zan H
theorem Ot:∀ {f:Nat} {r:Rd} {al:List Int},okB al->okB (syF bs cl cd dl room sz f r al).2
 | 0,r,al,H=>H
 | f+1,r,al,H=>by
  unfold syF;split
  ·split
   ·exact H
   ·rename_i h;have hk:(sy bs cl r).1.k=0:=by
     by_cases e:(sy bs cl r).1.k=0
     ·exact e
     ·exact absurd (.inl e) h
    exact Ot (zao (zdh hk).2.2.1 H)
  ·exact H
theorem TK(H:okB al):okB (blk bs dl room sz F r al).2:=by
 unfold blk;split
 ·exact H
 ·split
  ·exact TJ H
  ·split
   ·exact Ot H
   ·split
    ·exact H
    ·exact Ot H
theorem Gu:∀ {f:Nat} {r:Rd} {al:List Int},okB al->okB (blF bs dl room sz F f r al).2
 | 0,r,al,H=>H
 | f+1,r,al,H=>by
  unfold blF;split
  ·split
   ·exact TK H
   ·exact Gu (TK H)
  ·exact H
end
theorem zb4(H:okB us):okB (zO bs sz us r):=okB_drop' (Gu (okB_drop' H _)) _
theorem zap(h:(zE bs sz us r).1.k≠0):zA bs sz us r=((zE bs sz us r).1.k,zO bs sz us r,0,()):=by
 have e3:(zT bs sz us r).1=(zE bs sz us r).1:=by unfold zT;rw[TD h,Gt h]
 have e4:zF bs sz us r=(zE bs sz us r).1:=by unfold zF;rw[e3,Gs h]
 unfold zA;rw[e4,vP h]
theorem zaq(h:(zT bs sz us r).1.k≠0):zA bs sz us r=((zT bs sz us r).1.k,zO bs sz us r,0,()):=by
 have e4:zF bs sz us r=(zT bs sz us r).1:=by unfold zF;rw[Gs h]
 unfold zA;rw[e4,vP h]
theorem zb5(h:(zT bs sz us r).1.k=0)(hs:(zT bs sz us r).2≠zX 1 (zO bs sz us r)):zA bs sz us r=(4,zO bs sz us r,0,()):=by
 have e4:zF bs sz us r=⟨(zT bs sz us r).1.i,4⟩:=by unfold zF bdK;rw[vP ⟨h,by simpa using hs⟩]
 unfold zA;rw[e4,vP (show(4:Int)≠0 by decide)]
theorem zar(h:(zT bs sz us r).1.k=0)(hs:(zT bs sz us r).2=zX 1 (zO bs sz us r)):zA bs sz us r=(1,zO bs sz us r,(zT bs sz us r).1.i/8,()):=by
 have e4:zF bs sz us r=(zT bs sz us r).1:=by unfold zF bdK;rw[vM (fun e=>by rw[hs]at e;simp at e)]
 unfold zA;rw[e4,vM (fun e=>e h)]
end
variable {ds:List Int}{u:Value}
section
theorem MW:0<=(zH bs).2/\(zH bs).2<65536:=by
 have:=TC (bs:=bs) (n:=2) (r:=⟨0,0⟩) (x:=0) (m:=1) (by omega) (by omega);have e:(1:Int)*256^2=65536:=by decide
 rw[e]at this;exact this
theorem Qs(h0:0<=x:=by omega):zS x<=32768:=by
 unfold zS;split
 ·have:(2:Nat)^(x/4096+8).toNat<=2^15:=uX (by decide) (by omega);have e:(2:Nat)^15=32768:=by decide
  omega
 ·omega
theorem zcF:okR bs (zH bs).1:=MV fun _=>⟨nR _,by simp only;omega⟩
theorem Qt:okR bs (zR bs):=jU zcF
theorem zcG:okR bs (zD bs ds).1:=by
 unfold zD;split
 ·exact EI (by decide) (MV Qt)
 ·exact Qt
theorem Zg(hi:qaC S h)(s:qaB h h1)(hx:zk h .u8 a bs)(L:bs.length<=65536)
  {cd:Nat}(hd:zk h .u8 ad ds)(hcd:ds.length<=cd)(hdl:ds.length<=1048576)(K0:Kt)(e0 e2 e3 e4:Value) :
  zsD.wp oPP S yk (PZ h (zA bs (zS (zH bs).2) (zD bs ds).2 (zD bs ds).1)) [e0,.slice ad ds.length cd,e2,e3,e4,.int .i64 (zH bs).2,.slice a bs.length c,.int .i64 (zR bs).i,.int .i64 (zR bs).k,.int .i64 (zS (zH bs).2)] h1 [K0]:=by
 simp only[zsD,Tr.wp,z8,Ex.ev,coerce,toInt_int,za,zd,zi,ze,kp,zB,arith,Cst.val,SV.den,zq,zK,zz,zm,zl,zw,vF,vG,vA,vB,vC,vT,vD,vE,vJ,vI,vK,uB,uF,uE,uJ,vY,vL];intro b hb;have hn:=MW (bs:=bs);have wq:(IntKind.i64.wrap ((zH bs).2.tdiv 32)).tmod 2=(zH bs).2/32%2:=by
  rw[uL (by omega),i64_in _ (by omega),uG (by omega)]
 have hsz:=Qs hn.1;have s2:qaB h1 (upd h1 b (.cells (ints .u8 []) 5)):=Sub.zx hb;have e0':(#[]:Array Value)=ints .u8 []:=rfl;rw[wq];refine⟨fun hc=>?_,fun hc=>?_⟩
 ·have hc:(zH bs).2/32%2=1:=uP.1 hc;refine zb.mono (Lq (c:=c) (hi.sub (s.trans s2)) (hx.sub (s.trans s2)) (by omega) (zR bs) Qt 4) ?_;rintro _ h2 ⟨rfl,rfl⟩;have eI:hig bs 4 (zR bs) 0=zId bs:=rfl;rw[eI];refine⟨_,_,_,_,_,_,rfl,?_⟩;have eD2:(zD bs ds).2=ds:=by unfold zD;rw[vP hc]
  have eD1:(zD bs ds).1=bdK 5 (decide (ds.length=0)||(zX 1 ds != (zId bs).2)) (zId bs).1:=by unfold zD;rw[vP hc]
  have okD:=zcG (bs:=bs) (ds:=ds);have fin:∀(w:Bool),((zId bs).1.k=0->w=(decide (ds.length=0)||(zX 1 ds != (zId bs).2)))->((zId bs).1.k≠0->w=false)->(zId bs).1.i=(zD bs ds).1.i/\(if w=true then 5 else(zId bs).1.k)=(zD bs ds).1.k:=by
   intro w h1 h2;rw[eD1];unfold bdK;by_cases hk:(zId bs).1.k=0
   ·rw[<-h1 hk];cases w with
    | false=>rw[vM (by simp)];simp
    | true=>rw[vP ⟨hk,rfl⟩];simp
   ·rw[vM (fun e=>hk e.1),h2 hk];simp
  have go:∀(w:Bool) (e15:Value),((zId bs).1.k=0->w=(decide (ds.length=0)||(zX 1 ds != (zId bs).2)))->((zId bs).1.k≠0->w=false)->∀(K0:Kt) (e0 e1 e2 e3 e4 e5 e6 e7 e8 e10 e11:Value),
    zsE.wp oPP S yk (PZ h (zA bs (zS (zH bs).2) (zD bs ds).2 (zD bs ds).1)) [e0,e1,e2,e3,e4,e5,e6,e7,e8,.int .i64 (zS (zH bs).2),e10,e11,.slice ad ds.length cd,.slice a bs.length c,.int .i64 (zId bs).1.i,.int .i64 (if w=true then 5 else(zId bs).1.k)] (upd h1 b (.cells (ints .u8 []) 5)) [K0]:=by
   intro w e15 h1 h2 K0 e0 e1 e2 e3 e4 e5 e6 e7 e8 e10 e11;obtain⟨q1,q2⟩:=fin w h1 h2;rw[q1,q2,eD2];exact Zf hi (s.trans s2) hx L (zD bs ds).1 okD hsz (hd.sub (s.trans s2)) hcd hdl K0 _ _ _ _ _ _ _ _ _ _ _
  refine⟨fun hk=>?_,fun hk=>?_⟩
  ·have hk:(zId bs).1.k=0:=uP.1 hk;refine⟨fun hl=>?_,fun hl=>?_⟩
   ·have hl:ds.length≠0:=by simpa using hl
    refine zb.mono (xT (hi.sub (s.trans s2)) 1 ad cd ds (hd.sub (s.trans s2))) ?_;rintro _ h3 ⟨rfl,rfl⟩;refine⟨_,rfl,?_⟩;intro _ _;rw[Pn];refine go _ undef (fun _=>?_) (fun h=>absurd hk h) _ _ _ _ _ _ _ _ _ _ _ _;have:decide (ds.length=0)=false:=by simpa using hl
    rw[this,lV]
   ·have hl:ds.length=0:=by simpa using hl
    intro _ _;exact go true undef (fun _=>by rw[hl];rfl) (fun h=>absurd hk h) _ _ _ _ _ _ _ _ _ _ _ _
  ·have hk:(zId bs).1.k≠0:=by simpa using hk
   intro _ _;exact go false undef (fun h=>absurd h hk) (fun _=>rfl) _ _ _ _ _ _ _ _ _ _ _ _
 ·have hc:(zH bs).2/32%2≠1:=by simpa using hc
  have eD:zD bs ds=(zR bs,[]):=by unfold zD;rw[vM hc]
  intro _;rw[eD];have K:=Zf (S:=S) (c:=c) (us:=[]) hi (s.trans s2) hx L (zR bs) Qt hsz (zk.new (k:=.u8) (h:=h1) (b:=b) (T:=5) (xs:=[])) (cu:=0) (uN _) (by simp) K0;exact K _ _ _ _ _ _ _ _ _ _ _
theorem g_spec_Zlib'(hi:qaC S h)(O:tB.O h v bs)(L:jI bs)(O2:tB.O h u ds)(L2:jI ds) :
  zb oPP S F2 #[v,u] h (PZ h (xH bs ds)):=by
 obtain⟨a,c,rfl,hc,hx⟩:=Part.ints O;obtain⟨a2,c2,rfl,hc2,hx2⟩:=Part.ints O2;have hL:bs.length<=1048576:=L;have hL2:ds.length<=1048576:=L2;refine PW (vs:=[.slice a bs.length c,.slice a2 ds.length c2]) ⟨rfl,rfl,trivial⟩ hi ?_;simp only[Kv,Tr.wp,z8,Ex.ev,coerce,toInt_int,za,zd,zi,ze,j7,zB,arith,Cst.val,SV.den,zq,zK,zz,zm,zl,zw,vF,vG,vA,vB,vC,vT,vO,vU,vD,vE,vJ,vI,vK,uB,uF,uE,uJ,vY,vL];refine⟨fun hgt=>?_,fun hle=>?_⟩
 ·have e:xH bs ds=(7,[],0,()):=vP (by omega);rw[e];exact TG (fun _ _ e=>e)
 have hle:bs.length<=65536:=by omega
 have e:xH bs ds=zA bs (zS (zH bs).2) (zD bs ds).2 (zD bs ds).1:=vM (by omega);rw[e];have hn:=MW (bs:=bs);have ok0:okR bs ⟨0,0⟩:=fun _=>⟨nR _,by simp only;omega⟩
 refine zb.mono (Lq (c:=c) hi hx hL ⟨0,0⟩ ok0 2) ?_;rintro _ h1 ⟨rfl,rfl⟩;have eH:hig bs 2 ⟨0,0⟩ 0=zH bs:=rfl;rw[eH];refine⟨_,_,_,_,_,_,rfl,?_⟩;have t31:(zH bs).2.tmod 31=(zH bs).2%31:=uG hn.1;have t256:IntKind.i64.wrap ((zH bs).2.tdiv 256)=(zH bs).2/256:=by rw[uL hn.1,i64_in _ (by omega)]
 have t16:((zH bs).2/256).tmod 16=(zH bs).2/256%16:=uG (by omega);have t4096:IntKind.i64.wrap ((zH bs).2.tdiv 4096)=(zH bs).2/4096:=by rw[uL hn.1,i64_in _ (by omega)]
 rw[t31,t256,t16,t4096];have eW:(decide ((decide (((zH bs).2%31 != 0)=true)||(zH bs).2/256%16 != 8)=true)||decide ((zH bs).2/4096>7))=zW (zH bs).2:=by
  unfold zW;simp only[gA]
 rw[eW];refine zb.mono (xB hi a c bs (zH bs).1 (zW (zH bs).2)) ?_;rintro _ h2 ⟨rfl,rfl⟩;have eR:bd (zW (zH bs).2) (zH bs).1=zR bs:=rfl;rw[eR];refine⟨_,_,_,_,_,rfl,fun h7=>?_,fun h7=>?_⟩
 ·have wp:IntKind.i64.wrap ((zH bs).2/4096+8)=(zH bs).2/4096+8:=i64_in _ (by omega);rw[wp];refine zb.mono (Aq hi ((zH bs).2/4096+8)) ?_;rintro _ h3 ⟨rfl,rfl⟩;refine⟨_,rfl,fun _=>?_⟩;have eS:2^((zH bs).2/4096+8).toNat=zS (zH bs).2:=by unfold zS;rw[vP h7]
  rw[eS];exact Zg hi (fun _ _ e=>e) hx hle hx2 hc2 hL2 _ _ _ _ _
 ·intro _;have eS:(32768:Int)=((zS (zH bs).2:Nat):Int):=by unfold zS;rw[vM h7];rfl
  rw[eS];exact Zg hi (fun _ _ e=>e) hx hle hx2 hc2 hL2 _ _ _ _ _
end
end
end Go.Proofs.YtpodkihpnjhamaaGreatDoor
section
namespace Go.Proofs
abbrev Tryz.link:Go.Conc.Lib.WgLink:={ add:=79,done:=81,wait:=82,relMerge:=106,disable:=107,enable:=108,inBubble:=109,associate:=110,fatal:=111,uOr:=112,uAdd:=113,raceRead:=114,uLoad:=115,uStore:=116,disassociate:=117,semrelease:=118,acquire:=119,isAssociated:=120,uCas:=121,raceWrite:=122,semacquire:=123,orU64:=133,addU64:=134,loadU64:=135,storeU64:=136,casU64:=137,tWgP:=170,tUP:=144,tAssoc:=172,tWg:=130,tAU:=128,tU64:=51,tUint:=46,tU32:=38,tPU32:=176,tPAU:=204,tPU64:=206,tNoCopy:=124,tANoCopy:=125,tAlign64:=126 }
theorem Tryz.MY:Go.Conc.Lib.WgLib Tryz.prog Tryz.link:=
 ⟨Tryz.func79,Tryz.func81,Tryz.func82,Tryz.func106,Tryz.func107,Tryz.func108,Tryz.func109,Tryz.func110,Tryz.func111,Tryz.func112,Tryz.func113,Tryz.func114,Tryz.func115,Tryz.func116,Tryz.func117,Tryz.func118,Tryz.func119,Tryz.func120,Tryz.func121,Tryz.func122,Tryz.func123,Tryz.func133,Tryz.func134,Tryz.func135,Tryz.func136,Tryz.func137,Tryz.underlying170,Tryz.runUnderlying170,Tryz.sizeOf170,Tryz.isAgg170,Tryz.zeroValue170,Tryz.underlying144,Tryz.runUnderlying144,Tryz.sizeOf144,Tryz.isAgg144,Tryz.zeroValue144,Tryz.underlying172,Tryz.runUnderlying172,Tryz.sizeOf172,Tryz.isAgg172,Tryz.zeroValue172,Tryz.underlying130,Tryz.runUnderlying130,Tryz.sizeOf130,Tryz.isAgg130,Tryz.zeroValue130,Tryz.underlying128,Tryz.runUnderlying128,Tryz.sizeOf128,Tryz.isAgg128,Tryz.zeroValue128,Tryz.underlying51,Tryz.runUnderlying51,Tryz.sizeOf51,Tryz.isAgg51,Tryz.zeroValue51,Tryz.underlying46,Tryz.runUnderlying46,Tryz.sizeOf46,Tryz.isAgg46,Tryz.zeroValue46,Tryz.underlying38,Tryz.runUnderlying38,Tryz.sizeOf38,Tryz.isAgg38,Tryz.zeroValue38,Tryz.underlying176,Tryz.runUnderlying176,Tryz.sizeOf176,Tryz.isAgg176,Tryz.zeroValue176,Tryz.underlying204,Tryz.runUnderlying204,Tryz.sizeOf204,Tryz.isAgg204,Tryz.zeroValue204,Tryz.underlying206,Tryz.runUnderlying206,Tryz.sizeOf206,Tryz.isAgg206,Tryz.zeroValue206,Tryz.underlying0,Tryz.runUnderlying0,Tryz.sizeOf0,Tryz.isAgg0,Tryz.zeroValue0,Tryz.underlying3,Tryz.runUnderlying3,Tryz.sizeOf3,Tryz.isAgg3,Tryz.zeroValue3,Tryz.underlying4,Tryz.runUnderlying4,Tryz.sizeOf4,Tryz.isAgg4,Tryz.zeroValue4,Tryz.underlying9,Tryz.runUnderlying9,Tryz.sizeOf9,Tryz.isAgg9,Tryz.zeroValue9,Tryz.underlying20,Tryz.runUnderlying20,Tryz.sizeOf20,Tryz.isAgg20,Tryz.zeroValue20,Tryz.underlying21,Tryz.runUnderlying21,Tryz.sizeOf21,Tryz.isAgg21,Tryz.zeroValue21,(by kernel_rfl),(by kernel_rfl)⟩
end Go.Proofs
end
section
namespace Go.Eng
open Go Go.Conc
inductive Rk:Type
 | leaf
 | node (f:World->Rk)
def Rk.lt(a b:Rk):Prop:=∃f w,b=.node f/\a=f w
theorem Rk.wf:WellFounded Rk.lt:=⟨fun a=>by
 induction a with
 | leaf=>exact⟨_,fun b h=>by obtain⟨f,w,h,_⟩:=h;cases h⟩
 | node f ih=>exact⟨_,fun b h=>by obtain⟨g,w,h,rfl⟩:=h;cases h;exact ih w⟩⟩
inductive One {α:Type} (r:α->α->Prop):List α->List α->Prop
 | head {a b:α} {l:List α}:r a b->One r (a::l) (b::l)
 | tail {a:α} {l m:List α}:One r l m->One r (a::l) (a::m)
theorem One.acc{α:Type}{r:α->α->Prop}(hr:WellFounded r):∀l:List α,Acc (One r) l
 | []=>⟨_,fun _ h=>nomatch h⟩
 | b::l=>by
  have key:∀b,Acc r b->∀l,Acc (One r) l->Acc (One r) (b::l):=by
   intro b hb;induction hb with
   | intro b _ ihb=>
    intro l hl;induction hl with
    | intro l hl ihl=>
     refine⟨_,fun m h=>?_⟩;cases h with
     | head h=>exact ihb _ h l ⟨_,hl⟩
     | tail h=>exact ihl _ h
  exact key b (hr.apply b) l (One.acc hr l)
theorem One.set{α:Type}{r:α->α->Prop}:∀ {l:List α} {i:Nat} {x y:α},l[i]? = some x->r y x->One r (l.set i y) l
 | a::l,0,x,y,h,hr=>by simp at h;subst h;exact .head hr
 | a::l,i+1,x,y,h,hr=>.tail (One.set (l:=l) (by simpa using h) hr)
theorem One.wf{α:Type}{r:α->α->Prop}(hr:WellFounded r):WellFounded (One r):=⟨One.acc hr⟩
inductive Runs (P:Program) (Good:Machine->Outcome->World->Trace->Prop):Machine->Trace->Prop
 | fin {m:Machine} {t:Trace} {o:Outcome} {w:World} {ops:Array MemOp}:stepT P m=(.ended o w,ops)->Good m o w (t++ops)->Runs P Good m t
 | step {m m':Machine} {t:Trace} {ops:Array MemOp}:stepT P m=(.next m',ops)->Runs P Good m' (t++ops)->Runs P Good m t
variable {P:Program}
theorem Runs.run{Good:Machine->Outcome->World->Trace->Prop}{m:Machine}{t:Trace}(H:Runs P Good m t) :
  ∃N last o w t',runNT P (N+1) m t=(.ended o w,t')/\runN P N m=.next last/\Go.step P last=.ended o w/\Good last o w t':=by
 induction H with
 | @fin m t o w ops h g=>exact⟨0,m,o,w,_,by simp[runNT,h],rfl,by simp[Go.step,h],g⟩
 | @step m m' t ops h _ ih=>
  obtain⟨N,last,o,w,t',e1,e2,e3,e4⟩:=ih;refine⟨N+1,last,o,w,t',?_,?_,e3,e4⟩
  ·rw[runNT,h];exact e1
  ·rw[runN,Go.step,h];exact e2
def Ou(P:Program)(S:Shared)(m:Bool)(J:World->Prop)(Post:Frame->List Frame->Heap->Prop):Rk->Frame->List Frame->Heap->Prop
 | .leaf,fr,cs,h=>Post fr cs h
 | .node f,fr,cs,h=>∀w,Has w h->J w->∃fr' cs' w' es h',stepG P m (gor fr cs) w=.go (gor fr' cs') w' es/\Kept S h h' w w'/\(∀e∈es,AO S h w w' e)/\Ou P S m J Post (f w) fr' cs' h'
theorem Safe.zdo{S:Shared}(hS:∀fr cs h Q,¬S.big fr cs h Q){Post:Frame->List Frame->Heap->Prop}{fr:Frame}{cs:List Frame}{h:Heap}(m:Bool)(J:World->Prop)
  (H:Safe P S Post fr cs h):∃r,Ou P S m J Post r fr cs h:=by
 classical
 induction H with
 | done p=>exact⟨.leaf,p⟩
 | step fr' cs' w' es h' hs _ ih=>
  refine⟨.node fun w=>if c:Has w _ then(ih w m c).choose else .leaf,fun w hw _=>?_⟩;obtain⟨h1,h2,h3⟩:=hs w m hw;refine⟨_,_,_,_,_,h1,h2,h3,?_⟩;simp only[dif_pos hw];exact(ih w m hw).choose_spec
 | big h0 f Q e ha hb _ _=>exact absurd hb (hS _ _ _ _)
def Sil(P:Program)(main:Bool)(J:World->Prop)(Stop:Goroutine->World->Prop)(n:Nat)(g:Goroutine):Prop:=
 ∀w,Goes P main (fun _ w₁=>J w₁) Go.ConcR.DC0 Stop n g w
variable {n:Nat}{g:Goroutine}
theorem Yw{main:Bool}{J:World->Prop}{D:World->World->Array Event->Prop}{Stop:Goroutine->World->Prop}{w w':World}
  (H:Goes P main (fun _ w₁=>J w₁) D Stop n g w):Goes P main (fun _ w₁=>J w₁) D Stop n g w':=by
 cases n <;> exact H
variable {w:World}
theorem Sil.of{main:Bool}{J:World->Prop}{Stop:Goroutine->World->Prop}
  (H:Goes P main (fun _ w₁=>J w₁) Go.ConcR.DC0 Stop n g w):Sil P main J Stop n g:=fun _=>Yw H
theorem Sil.cases{main:Bool}{J:World->Prop}{Stop:Goroutine->World->Prop}(H:Sil P main J Stop n g) :
  (∀w,J w->Stop g w)\/∃k,n=k+1/\g.status=.running/\∀w,J w->∃g',stepG P main g w=.go g' w #[]/\Sil P main J Stop k g':=by
 cases n with
 | zero=>exact .inl fun w hw=>H w w hw
 | succ n=>
  rcases H default with h | ⟨hs,h⟩
  ·exact .inl h
  ·refine .inr ⟨n,rfl,hs,fun w hw=>?_⟩;have:=h w hw;revert this;cases stepG P main g w <;> simp only[GStep.goes,false_implies]
   rintro⟨⟨rfl,rfl⟩,h2⟩;exact⟨_,rfl,Sil.of h2⟩
end Go.Eng
namespace Go.Eng
open Go Go.Conc
open Go.ConcR (g_of_ofEvents)
structure WS where
 stage:Nat
 rk:Rk
 fuel:Nat
 heap:Heap
structure Com(w0:World)(S:Shared)(N0:Nat)(h:Heap)(T:List WS)(w:World)(t:Trace):Prop where
 env:w.os=w0.os/\w.tape=w0.tape/\w.output=w0.output
 has:Has w h
 inv:Inv S h
 hasW:∀(i:Nat) (x:WS),T[i]? = some x->Has w x.heap
 apart:∀(i:Nat) (x:WS),T[i]? = some x->∀b,¬S b->x.heap b≠none->h b=none
 apart2:∀(i j:Nat) (x y:WS),T[i]? = some x->T[j]? = some y->i≠j->∀b,¬S b->x.heap b≠none->y.heap b=none
 nr:∀said,¬Race said t
 gsb:∀(i:Nat) (op:MemOp),t[i]? = some op->op.g<=T.length
 lo:∀(i:Nat) (a:Touch),touchAt t i=some a->∃ad,a.loc=.cell ad/\ad.block<w.heap.size
 norel:∀(i:Nat) (a:Addr),t.act? i≠some (.mark (.release a))
 kn:∀(i:Nat) (a:Touch) (ad:Addr),touchAt t i=some a->a.loc=.cell ad->h ad.block≠none->Knows t 0 i\/(S ad.block/\a.write=false/\a.kind=.plain/\∃k,N0<k/\t.g? i=some k)
 knW:∀(k:Nat) (x:WS),T[k]? = some x->∀(i:Nat) (a:Touch) (ad:Addr),touchAt t i=some a->a.loc=.cell ad->x.heap ad.block≠none->(¬S ad.block\/a.write=true)->Knows t (k+1) i
 ho:∀(i k:Nat),t.g? i=some k->k≠0->k<=N0->t.counts i->Knows t 0 i
variable {b g i k:Nat}{fn:FuncId}{pos:String}{hA hA':Heap}
section
variable {S:Shared}{N0:Nat}{h h' : Heap}{T T' : List WS}{w0 w w' : World}{t u:Trace}{es:Array Event}
theorem yD{a:Touch}(ha:touchAt (t++u) i=some a):(i<t.size/\touchAt t i=some a)\/∃op∈u,op.act.touch? = some a/\(t++u)[i]? = some op:=by
 obtain⟨op,ho,hoa⟩:=touch_of ha;rcases getElem?_append_cases ho with⟨hlt,h1⟩ | ⟨_,hu⟩
 ·exact .inl ⟨hlt,by rw[touchAt_of h1];exact hoa⟩
 ·exact .inr ⟨op,hu,hoa,ho⟩
theorem g?_cases(hg:(t++u).g? i=some k):(i<t.size/\t.g? i=some k)\/∃op∈u,op.g=k/\(t++u)[i]? = some op:=by
 obtain⟨op,ho,hoa⟩:=vW.1 hg;rcases getElem?_append_cases ho with⟨hlt,h1⟩ | ⟨_,hu⟩
 ·exact .inl ⟨hlt,by simp[Trace.g?,h1,hoa]⟩
 ·exact .inr ⟨op,hu,hoa,ho⟩
theorem yS{op:MemOp}(hop:op∈MemOp.ofEvents g fn pos es):∃e∈es,op={ g,fn,pos,act:=.ofEvent e }:=by
 unfold MemOp.ofEvents at hop;split at hop
 ·simp at hop
 ·obtain⟨e,he,rfl⟩:=Array.mem_map.1 hop;exact⟨e,he,rfl⟩
theorem jV{op:MemOp}{b:Touch}(hes:∀e∈es,AO S h w w' e)(hop:op∈MemOp.ofEvents g fn pos es)(hb:op.act.touch? = some b) :
  ∃ad,b.loc=.cell ad/\b.kind=.plain/\(h ad.block≠none\/w.heap.size<=ad.block)/\(b.write=true->¬S ad.block)/\ad.block<w'.heap.size:=by
 obtain⟨e,he,rfl⟩:=yS hop;rcases hes e he with⟨a,h1,h2,h3,h4⟩ | ⟨m,hm,rfl⟩
 ·obtain⟨l,wr,sy⟩:=e;simp only at h1 h2 h4;subst h1 h2;have:MemAct.ofEvent ⟨.cell a,wr,false⟩=.access ⟨.cell a,wr,false⟩:=by cases wr <;> rfl
  simp only[this,MemAct.touch?,uZ]at hb;subst hb;exact⟨a,rfl,rfl,h3,h4⟩
 ·cases m <;> simp[Quiet,MemAct.ofEvent,MemAct.touch?]at hb hm
theorem MZ{op:MemOp}(hes:∀e∈es,AO S h w w' e)(hop:op∈MemOp.ofEvents g fn pos es)(a:Addr):op.act ≠ .mark (.release a):=by
 obtain⟨e,he,rfl⟩:=yS hop;rcases hes e he with⟨a,h1,h2,h3,h4⟩ | ⟨m,hm,rfl⟩
 ·obtain⟨l,wr,sy⟩:=e;simp only at h1 h2;subst h1 h2;have:MemAct.ofEvent ⟨.cell a,wr,false⟩=.access ⟨.cell a,wr,false⟩:=by cases wr <;> rfl
  simp[this]
 ·cases m <;> simp[Quiet,MemAct.ofEvent]at hm ⊢
theorem WG(K:Kept S hA hA' w w')(H:Has w hA)(hb:b<w.heap.size)(hS:hA b=none\/S b):w'.heap[b]? = w.heap[b]? := by
 cases hh:hA b with
 | none=>exact(K.old b hb hh).1
 | some o=>
  have hs:S b:=hS.resolve_left (by rw[hh];simp);have h1:=K.ro b hs;rw[hh]at h1;rw[K.has b o h1,H b o hh]
theorem Lt{hA hA' hB:Heap}(K:Kept S hA hA' w w')(H:Has w hA)(HB:Has w hB)(hap:∀b,¬S b->hB b≠none->hA b=none):Has w' hB:=fun b o hb=>by
 have hlt:=HB.lt hb;rw[WG K H hlt (by
  by_cases hs:S b
  ·exact .inr hs
  ·exact .inl (hap b hs (by rw[hb];simp)))]
 exact HB b o hb
theorem Hi(K:Kept S hA hA' w w')(hb:b<w.heap.size)(h':hA' b≠none):hA b≠none:=fun hn=>h' (K.old b hb hn).2
theorem j6(h:Knows t g i):Knows (t++u) g i:=Knows.app u h
theorem Fp(h:∀(i:Nat) (a:Addr),t.act? i≠some (.mark (.release a)))(hu:∀op∈u,∀a,op.act ≠ .mark (.release a)):∀(i:Nat) (a:Addr),(t++u).act? i≠some (.mark (.release a)):=by
 intro i a e;obtain⟨op,ho,hoa⟩:=vW.1 e;rcases getElem?_append_cases ho with⟨_,h1⟩ | ⟨_,h1⟩
 ·exact h i a (by simp[Trace.act?,h1,hoa])
 ·exact hu op h1 a hoa
theorem JK{n:Nat}(h:∀(i:Nat) (op:MemOp),t[i]? = some op->op.g<=n)(hu:∀op∈u,op.g<=n):∀(i:Nat) (op:MemOp),(t++u)[i]? = some op->op.g<=n:=by
 intro i op ho;rcases getElem?_append_cases ho with⟨_,h1⟩ | ⟨_,h1⟩
 ·exact h i op h1
 ·exact hu op h1
theorem Na{N0:Nat}(h:∀(i k:Nat),t.g? i=some k->k≠0->k<=N0->t.counts i->Knows t 0 i)(hu:∀op∈u,op.g=0\/N0<op.g\/op.act.touch? = none) :
  ∀(i k:Nat),(t++u).g? i=some k->k≠0->k<=N0->(t++u).counts i->Knows (t++u) 0 i:=by
 intro i k hg hk hN hc;rcases g?_cases hg with⟨hlt,h1⟩ | ⟨op,h1,rfl,h2⟩
 ·exact j6 (h i k h1 hk hN ((counts_old hlt).1 hc))
 ·rcases hu op h1 with h3 | h3 | h3
  ·exact absurd h3 hk
  ·omega
  ·obtain⟨x,hx,_⟩:=hc;simp[Trace.act?,h2,h3]at hx
theorem Com.main(C:Com w0 S N0 h T w t)(K:Kept S h h' w w')(hes:∀e∈es,AO S h w w' e)(fn:FuncId)(pos:String):Com w0 S N0 h' T w' (t++MemOp.ofEvents 0 fn pos es):=by
 have hg:∀op∈MemOp.ofEvents 0 fn pos es,op.g=0:=g_of_ofEvents;have own:∀ {i:Nat} {op:MemOp},op∈MemOp.ofEvents 0 fn pos es->(t++MemOp.ofEvents 0 fn pos es)[i]? = some op->Knows (t++MemOp.ofEvents 0 fn pos es) 0 i:=fun h1 h2=>by
  have:=knows_own h2;rwa[hg _ h1]at this
 refine⟨⟨K.os.trans C.env.1,K.tape.trans C.env.2.1,K.output.trans C.env.2.2⟩,K.has,?_,?_,?_,C.apart2,?_,?_,?_,?_,?_,?_,?_⟩
 ·intro b hb hn;rw[K.ro b hb]at hn;exact C.inv b hb hn
 ·exact fun i x hx=>Lt K C.has (C.hasW i x hx) (C.apart i x hx)
 ·intro i x hx b hS hb;have hlt:b<w.heap.size:=by
   cases hh:x.heap b with
   | none=>exact absurd hh hb
   | some o=>exact(C.hasW i x hx).lt hh
  exact(K.old b hlt (C.apart i x hx b hS hb)).2
 ·intro said;refine noRace_append (C.nr said) hg fun i a ha op hop b hb hc=>?_
  obtain⟨ad,h1,h2,h3,h4,_⟩:=jV hes hop hb;have hal:a.loc=.cell ad:=hc.1.trans h1;obtain⟨ad2,e2,hlt⟩:=C.lo i a ha;rw[hal]at e2;cases e2
  rcases C.kn i a ad ha hal (h3.resolve_right (by omega))with h5 | ⟨h5,h6,_⟩
  ·exact h5
  ·rcases hc.2.2.1 with h7 | h7
   ·rw[h6]at h7;cases h7
   ·exact absurd h5 (h4 h7)
 ·exact JK C.gsb fun op hop=>by rw[hg op hop];omega
 ·intro i a ha;rcases yD ha with⟨_,h1⟩ | ⟨op,h1,h2,_⟩
  ·obtain⟨ad,e,hlt⟩:=C.lo i a h1;exact⟨ad,e,fF hlt K.size⟩
  ·obtain⟨ad,e1,_,_,_,e5⟩:=jV hes h1 h2;exact⟨ad,e1,e5⟩
 ·exact Fp C.norel fun op hop a=>MZ hes hop a
 ·intro i a ad ha hl hh;rcases yD ha with⟨hlt,h1⟩ | ⟨op,h1,h2,h3⟩
  ·obtain⟨ad2,e2,hlt2⟩:=C.lo i a h1;rw[hl]at e2;cases e2
   rcases C.kn i a ad h1 hl (Hi K hlt2 hh)with h4 | ⟨h4,h5,h6,k,h7,h8⟩
   ·exact .inl (j6 h4)
   ·exact .inr ⟨h4,h5,h6,k,h7,by rw[g?_old hlt];exact h8⟩
  ·exact .inl (own h1 h3)
 ·intro k x hx i a ad ha hl hh hc;rcases yD ha with⟨hlt,h1⟩ | ⟨op,h1,h2,h3⟩
  ·exact j6 (C.knW k x hx i a ad h1 hl hh hc)
  ·obtain⟨ad2,e1,_,e3,e4,_⟩:=jV hes h1 h2;rw[hl]at e1;cases e1
   have hlt:ad.block<w.heap.size:=by
    cases hx2:x.heap ad.block with
    | none=>exact absurd hx2 hh
    | some o=>exact(C.hasW k x hx).lt hx2
   have hne:h ad.block≠none:=e3.resolve_right (by omega);rcases hc with hc | hc
   ·exact absurd (C.apart k x hx _ hc hh) hne
   ·exact absurd (C.apart k x hx _ (e4 hc) hh) hne
 ·exact Na C.ho fun op hop=>.inl (hg op hop)
theorem yP{α:Type}{l:List α}{i j:Nat}{x y:α}(h:(l.set i x)[j]? = some y):(i=j/\y=x)\/(i≠j/\l[j]? = some y):=by
 rw[pU]at h;by_cases e:i=j
 ·subst e;simp only[uJ]at h;split at h
  ·exact .inl ⟨rfl,(pT h).symm⟩
  ·cases h
 ·rw[vM e]at h;exact .inr ⟨e,h⟩
theorem Nb{g:Heap}(H:Has w g)(hb:g b≠none):b<w.heap.size:=by
 cases hh:g b with
 | none=>exact absurd hh hb
 | some o=>exact H.lt hh
theorem Com.worker(C:Com w0 S N0 h T w t){x:WS}(hx:T[k]? = some x)(hN:N0<=k)(K:Kept S x.heap h' w w')(hes:∀e∈es,AO S x.heap w w' e)(fn:FuncId)(pos:String){y:WS}(hy:y.heap=h') :
  Com w0 S N0 h (T.set k y) w' (t++MemOp.ofEvents (k+1) fn pos es):=by
 have hg:∀op∈MemOp.ofEvents (k+1) fn pos es,op.g=k+1:=g_of_ofEvents;have hW:=C.hasW k x hx;have hkl:k<T.length:=(vS.1 hx).1;have own:∀ {i:Nat} {op:MemOp},op∈MemOp.ofEvents (k+1) fn pos es->(t++MemOp.ofEvents (k+1) fn pos es)[i]? = some op->Knows (t++MemOp.ofEvents (k+1) fn pos es) (k+1) i:=fun h1 h2=>by
  have:=knows_own h2;rwa[hg _ h1]at this
 have apM:∀b,¬S b->h b≠none->x.heap b=none:=fun b hS hb=>by
  cases hh:x.heap b with
  | none=>rfl
  | some o=>exact absurd (C.apart k x hx b hS (by rw[hh];simp)) hb
 have ap2:∀(j:Nat) (z:WS),T[j]? = some z->k≠j->∀b,¬S b->z.heap b≠none->x.heap b=none:=fun j z hz hj b hS hb=>C.apart2 j k z x hz hx (uW hj) b hS hb
 refine⟨⟨K.os.trans C.env.1,K.tape.trans C.env.2.1,K.output.trans C.env.2.2⟩,Lt K hW C.has apM,C.inv,?_,?_,?_,?_,?_,?_,?_,?_,?_,?_⟩
 ·intro j z hz;rcases yP hz with⟨rfl,rfl⟩ | ⟨hj,hz⟩
  ·rw[hy];exact K.has
  ·exact Lt K hW (C.hasW j z hz) (ap2 j z hz hj)
 ·intro j z hz b hS hb;rcases yP hz with⟨rfl,rfl⟩ | ⟨hj,hz⟩
  ·rw[hy]at hb;cases hh:h b with
   | none=>rfl
   | some o=>
    have hlt:=Nb C.has (b:=b) (by rw[hh];simp);exact absurd (apM b hS (by rw[hh];simp)) (Hi K hlt hb)
  ·exact C.apart j z hz b hS hb
 ·intro i j z z2 hz hz2 hij b hS hb;rcases yP hz with⟨rfl,rfl⟩ | ⟨hj,hz'⟩
  ·rcases yP hz2 with⟨rfl,_⟩ | ⟨hj2,hz2⟩
   ·exact absurd rfl hij
   ·rw[hy]at hb;cases hh:z2.heap b with
    | none=>rfl
    | some o=>
     have hlt:=Nb (C.hasW j z2 hz2) (b:=b) (by rw[hh];simp);exact absurd (ap2 j z2 hz2 hij b hS (by rw[hh];simp)) (Hi K hlt hb)
  ·rcases yP hz2 with⟨rfl,rfl⟩ | ⟨hj2,hz2⟩
   ·rw[hy];have hlt:=Nb (C.hasW i z hz') (b:=b) hb;exact(K.old b hlt (ap2 i z hz' hj b hS hb)).2
   ·exact C.apart2 i j z z2 hz' hz2 hij b hS hb
 ·intro said;refine noRace_append (C.nr said) hg fun i a ha op hop b hb hc=>?_
  obtain⟨ad,h1,h2,h3,h4,_⟩:=jV hes hop hb;have hal:a.loc=.cell ad:=hc.1.trans h1;obtain⟨ad2,e2,hlt⟩:=C.lo i a ha;rw[hal]at e2;cases e2
  refine C.knW k x hx i a ad ha hal (h3.resolve_right (by omega)) ?_;rcases hc.2.2.1 with h7 | h7
  ·exact .inr h7
  ·exact .inl (h4 h7)
 ·rw[uR];exact JK C.gsb fun op hop=>by rw[hg op hop];omega
 ·intro i a ha;rcases yD ha with⟨_,h1⟩ | ⟨op,h1,h2,_⟩
  ·obtain⟨ad,e,hlt⟩:=C.lo i a h1;exact⟨ad,e,fF hlt K.size⟩
  ·obtain⟨ad,e1,_,_,_,e5⟩:=jV hes h1 h2;exact⟨ad,e1,e5⟩
 ·exact Fp C.norel fun op hop a=>MZ hes hop a
 ·intro i a ad ha hl hh;rcases yD ha with⟨hlt,h1⟩ | ⟨op,h1,h2,h3⟩
  ·rcases C.kn i a ad h1 hl hh with h4 | ⟨h4,h5,h6,q,h7,h8⟩
   ·exact .inl (j6 h4)
   ·exact .inr ⟨h4,h5,h6,q,h7,by rw[g?_old hlt];exact h8⟩
  ·obtain⟨ad2,e1,e2,e3,e4,_⟩:=jV hes h1 h2;rw[hl]at e1;cases e1
   have hlt:=Nb C.has hh;have hne:=e3.resolve_right (by omega);have hS:S ad.block:=by
    refine gP fun hS=>?_
    exact hne (apM _ hS hh)
   refine .inr ⟨hS,?_,e2,k+1,by omega,by simp[Trace.g?,h3,hg op h1]⟩;cases hw:a.write with
   | false=>rfl
   | true=>exact absurd hS (e4 hw)
 ·intro j z hz i a ad ha hl hh hc;rcases yD ha with⟨hlt,h1⟩ | ⟨op,h1,h2,h3⟩
  ·rcases yP hz with⟨rfl,rfl⟩ | ⟨hj,hz⟩
   ·rw[hy]at hh;obtain⟨ad2,e2,hlt2⟩:=C.lo i a h1;rw[hl]at e2;cases e2
    exact j6 (C.knW k x hx i a ad h1 hl (Hi K hlt2 hh) hc)
   ·exact j6 (C.knW j z hz i a ad h1 hl hh hc)
  ·rcases yP hz with⟨rfl,rfl⟩ | ⟨hj,hz⟩
   ·exact own h1 h3
   ·obtain⟨ad2,e1,_,e3,e4,_⟩:=jV hes h1 h2;rw[hl]at e1;cases e1
    have hlt:=Nb (C.hasW j z hz) hh;have hne:=e3.resolve_right (by omega);rcases hc with hc | hc
    ·exact absurd (ap2 j z hz hj _ hc hh) hne
    ·exact absurd (ap2 j z hz hj _ (e4 hc) hh) hne
 ·exact Na C.ho fun op hop=>.inr (.inl (by rw[hg op hop];omega))
theorem Com.other(C:Com w0 S N0 h T w t)(hgl:g<=T.length)(hu:∀op∈u,op.g=g)(hT:T'.length=T.length)(hTs:∀(i:Nat) (y:WS),T'[i]? = some y->∃x,T[i]? = some x/\∀b,y.heap b≠none->y.heap b=x.heap b)
  (he:w'.os=w.os/\w'.tape=w.tape/\w'.output=w.output)(hs:w'.heap.size=w.heap.size)(hh:∀b,(h b≠none\/∃(i:Nat) (x:WS),T[i]? = some x/\x.heap b≠none)->w'.heap[b]? = w.heap[b]?)
  (ht:∀op∈u,∀b,op.act.touch? = some b->∃ad,b.loc=.cell ad/\ad.block<w.heap.size/\h ad.block=none/\(∀(i:Nat) (x:WS),T[i]? = some x->x.heap ad.block=none)/\∀(said:Bool) (i:Nat) (a:Touch),touchAt t i=some a->a.conflicts said b->Knows t g i)
  (hr:∀op∈u,∀a,op.act ≠ .mark (.release a))(hN:g=0\/N0<g\/∀op∈u,op.act.touch? = none):Com w0 S N0 h T' w' (t++u):=by
 have sub:∀ {i:Nat} {y:WS},T'[i]? = some y->∃x,T[i]? = some x/\∀b,y.heap b≠none->x.heap b≠none:=fun hy=>by
  obtain⟨x,hx,hb⟩:=hTs _ _ hy;exact⟨x,hx,fun b h=>by rw[<-hb b h];exact h⟩
 refine⟨⟨he.1.trans C.env.1,he.2.1.trans C.env.2.1,he.2.2.trans C.env.2.2⟩,?_,C.inv,?_,?_,?_,?_,?_,?_,Fp C.norel hr,?_,?_,?_⟩
 ·intro b o hb;rw[hh b (.inl (by rw[hb];simp))];exact C.has b o hb
 ·intro i y hy b o hb;obtain⟨x,hx,hb2⟩:=hTs i y hy;have e:=hb2 b (by rw[hb];simp);rw[hb]at e;rw[hh b (.inr ⟨i,x,hx,by rw[<-e];simp⟩)];exact C.hasW i x hx b o e.symm
 ·intro i y hy b hS hb;obtain⟨x,hx,hb2⟩:=sub hy;exact C.apart i x hx b hS (hb2 b hb)
 ·intro i j y z hy hz hij b hS hb;obtain⟨x,hx,hb2⟩:=sub hy;obtain⟨x2,hx2,hb3⟩:=sub hz;cases hzb:z.heap b with
  | none=>rfl
  | some o=>exact absurd (C.apart2 i j x x2 hx hx2 hij b hS (hb2 b hb)) (hb3 b (by rw[hzb];simp))
 ·intro said;refine noRace_append (C.nr said) hu fun i a ha op hop b hb hc=>?_
  obtain⟨ad,_,_,_,_,h5⟩:=ht op hop b hb;exact h5 said i a ha hc
 ·rw[hT];exact JK C.gsb fun op hop=>by rw[hu op hop];exact hgl
 ·intro i a ha;rcases yD ha with⟨_,h1⟩ | ⟨op,h1,h2,_⟩
  ·obtain⟨ad,e,hlt⟩:=C.lo i a h1;exact⟨ad,e,by omega⟩
  ·obtain⟨ad,e1,e2,_⟩:=ht op h1 a h2;exact⟨ad,e1,by omega⟩
 ·intro i a ad ha hl hb;rcases yD ha with⟨hlt,h1⟩ | ⟨op,h1,h2,h3⟩
  ·rcases C.kn i a ad h1 hl hb with h4 | ⟨h4,h5,h6,q,h7,h8⟩
   ·exact .inl (j6 h4)
   ·exact .inr ⟨h4,h5,h6,q,h7,by rw[g?_old hlt];exact h8⟩
  ·obtain⟨ad2,e1,_,e3,_⟩:=ht op h1 a h2;rw[hl]at e1;cases e1
   exact absurd e3 hb
 ·intro k y hy i a ad ha hl hb hc;obtain⟨x,hx,hb2⟩:=sub hy;rcases yD ha with⟨hlt,h1⟩ | ⟨op,h1,h2,h3⟩
  ·exact j6 (C.knW k x hx i a ad h1 hl (hb2 _ hb) hc)
  ·obtain⟨ad2,e1,_,_,e4,_⟩:=ht op h1 a h2;rw[hl]at e1;cases e1
   exact absurd (e4 k x hx) (hb2 _ hb)
 ·exact Na C.ho fun op hop=>by
   rcases hN with h | h | h
   ·exact .inl (by rw[hu op hop,h])
   ·exact .inr (.inl (by rw[hu op hop];exact h))
   ·exact .inr (.inr (h op hop))
end
end Go.Eng
namespace Go.Eng
open Go Go.Conc Go.ConcN
open Go.ConcR (KK wgBlock WgAt stA smA rd wr mk g_of_ofEvents Bk DC0)
structure Ph where
 ty:TypeId
 Wg:Nat
 C:Nat
 ety:TypeId
 n:Nat
 S:Shared
 val:Nat->Value
def Ph.pay(Φ:Ph)(w:World):Prop:=∃cs:Array Value,w.heap[Φ.C]? = some (.cells cs Φ.ety)/\cs.size=Φ.n
def Ph.J(Φ:Ph)(w:World):Prop:=WgLive Φ.ty Φ.Wg w/\Φ.pay w
section
variable (P:Program)(Φ:Ph)
def AtD4(g:Goroutine)(w:World):Prop:=
 g.status=.running/\mayWake P g=true/\(WgAt Φ.ty Φ.Wg w 0 0->∃g',stepG P false g w=.go g' (w.setCell (smA Φ.Wg) (.int .u32 1)) (semEvents (smA Φ.Wg))/\∃q,QuitsD P q 1 g')
def AtD3(g:Goroutine)(w:World):Prop:=
 g.status=.running/\(WgAt Φ.ty Φ.Wg w 1 0->∃g',stepG P false g w=.go g' (w.setCell (stA Φ.Wg) (.int .u64 0)) #[wr (stA Φ.Wg)]/\∃m,Sil P false Φ.J (AtD4 P Φ) m g')
def AtD2(g:Goroutine)(w:World):Prop:=
 g.status=.running/\(WgAt Φ.ty Φ.Wg w 1 0->∃g',stepG P false g w=.go g' w #[rd (stA Φ.Wg)]/\∃m,Sil P false Φ.J (AtD3 P Φ) m g')
def AtD1(g:Goroutine)(w:World):Prop:=
 g.status=.running/\∀v wt:Nat,wt<=1->v<2147483647->WgAt Φ.ty Φ.Wg w ((v+1)*KK+wt) 0 ->
  ∃g',stepG P false g w=.go g' (w.setCell (stA Φ.Wg) (.int .u64 (v*KK+wt))) #[rd (stA Φ.Wg),wr (stA Φ.Wg)] /\
   ((v=0/\wt=1)->∃m,Sil P false Φ.J (AtD2 P Φ) m g')/\(¬(v=0/\wt=1)->∃q,QuitsD P q 1 g')
def AtK1(g:Goroutine)(w:World):Prop:=
 g.status=.running/\∃g',stepG P false g w=.go g' w #[mk .disable]/\∃m,Sil P false Φ.J (AtD1 P Φ) m g'
def AtR0(g:Goroutine)(w:World):Prop:=
 g.status=.running/\∃g',stepG P false g w=.go g' w #[mk (.releaseMerge (stA Φ.Wg))]/\∃m,Sil P false Φ.J (AtK1 P Φ) m g'
def JL(i:Nat)(fr:Frame)(cs:List Frame)(h:Heap):Prop:=
 ∀w,Has w h->Φ.J w->∃g',stepG P false (gor fr cs) w=.go g' (w.setCell ⟨Φ.C,i,none⟩ (Φ.val i)) #[⟨.cell ⟨Φ.C,i,none⟩,true,false⟩]/\∃m,Sil P false Φ.J (AtR0 P Φ) m g'
def Works(i:Nat)(fr:Frame)(cs:List Frame)(h:Heap):Prop:=∃r,Ou P Φ.S false Φ.J (JL P Φ i) r fr cs h
def RD(Nx:Frame->List Frame->Prop)(g:Goroutine)(_:World):Prop:=∃fr cs,g=gor fr cs/\Nx fr cs
def Jf(Nx:Frame->List Frame->Prop)(g:Goroutine)(w:World):Prop:=
 g.status=.running/\∃g',stepG P true g w=.go g' w #[mk .enable]/\∃m,Sil P true Φ.J (RD Nx) m g'
def RE(Nx:Frame->List Frame->Prop)(g:Goroutine)(w:World):Prop:=
 g.status=.running/\∃g',stepG P true g w=.go g' w #[mk (.read (smA Φ.Wg))]/\∃m,Sil P true Φ.J (Jf P Φ Nx) m g'
def AtA1(Nx:Frame->List Frame->Prop)(g:Goroutine)(w:World):Prop:=
 g.status=.running/\∀v:Nat,v<2147483647->WgAt Φ.ty Φ.Wg w (v*KK) 0 ->
  ∃g',stepG P true g w=.go g' (w.setCell (stA Φ.Wg) (.int .u64 ((v+1)*KK))) #[rd (stA Φ.Wg),wr (stA Φ.Wg)] /\
   (v=0->∃m,Sil P true Φ.J (RE P Φ Nx) m g')/\(v≠0->∃m,Sil P true Φ.J (Jf P Φ Nx) m g')
def Ov(Nx:Frame->List Frame->Prop)(g:Goroutine)(w:World):Prop:=
 g.status=.running/\∃g',stepG P true g w=.go g' w #[mk .disable]/\∃m,Sil P true Φ.J (AtA1 P Φ Nx) m g'
def BM(Nx:Frame->List Frame->Prop)(fr:Frame)(cs:List Frame):Prop:=∃m,Sil P true Φ.J (Ov P Φ Nx) m (gor fr cs)
def Lu(Nx:Frame->List Frame->Prop)(g:Goroutine)(w:World):Prop:=
 g.status=.running/\∃fr cs,stepG P true g w=.go (gor fr cs) w #[mk (.acquire (stA Φ.Wg))]/\Nx fr cs
def Jg(Nx:Frame->List Frame->Prop)(g:Goroutine)(w:World):Prop:=
 g.status=.running/\∃g',stepG P true g w=.go g' w #[mk .enable]/\∃m,Sil P true Φ.J (Lu P Φ Nx) m g'
def AtW4(Nx:Frame->List Frame->Prop)(g:Goroutine)(w:World):Prop:=
 g.status=.running/\(WgAt Φ.ty Φ.Wg w 0 0->∃g',stepG P true g w=.go g' w #[rd (stA Φ.Wg)]/\∃m,Sil P true Φ.J (Jg P Φ Nx) m g')
def AtW3(Nx:Frame->List Frame->Prop)(g:Goroutine)(w:World):Prop:=
 g.status=.running/\g.offers=none /\
  ((∃st,WgAt Φ.ty Φ.Wg w st 0)->stepG P true g w=.go { g with status:=.blocked } w #[]) /\
  (WgAt Φ.ty Φ.Wg w 0 1->∃g',stepG P true g w=.go g' (w.setCell (smA Φ.Wg) (.int .u32 0)) (semEvents (smA Φ.Wg))/\∃m,Sil P true Φ.J (AtW4 P Φ Nx) m g')
def RF(Nx:Frame->List Frame->Prop)(g:Goroutine)(w:World):Prop:=
 g.status=.running/\∃g',stepG P true g w=.go g' w #[mk (.write (smA Φ.Wg))]/\∃m,Sil P true Φ.J (AtW3 P Φ Nx) m g'
def AtW2(Nx:Frame->List Frame->Prop)(Anch:Goroutine->Prop)(vs:Nat)(g:Goroutine)(w:World):Prop:=
 g.status=.running/\∀v:Nat,v<2147483648->WgAt Φ.ty Φ.Wg w (v*KK) 0 ->
  (v=vs->∃g',stepG P true g w=.go g' (w.setCell (stA Φ.Wg) (.int .u64 (v*KK+1))) #[rd (stA Φ.Wg),wr (stA Φ.Wg)]/\∃m,Sil P true Φ.J (RF P Φ Nx) m g') /\
  (v≠vs->∃g',stepG P true g w=.go g' w #[rd (stA Φ.Wg)]/\∃m,Sil P true Φ.J (fun g _=>Anch g) m g')
def AtW1(Nx:Frame->List Frame->Prop)(Anch:Goroutine->Prop)(g:Goroutine)(w:World):Prop:=
 g.status=.running/\∀v:Nat,v<2147483648->WgAt Φ.ty Φ.Wg w (v*KK) 0->∃g',stepG P true g w=.go g' w #[rd (stA Φ.Wg)] /\
  (v=0->∃m,Sil P true Φ.J (Jg P Φ Nx) m g')/\(v≠0->∃m,Sil P true Φ.J (AtW2 P Φ Nx Anch v) m g')
def zdp(Anch:Goroutine->Prop)(g:Goroutine)(w:World):Prop:=
 g.status=.running/\∃g',stepG P true g w=.go g' w #[mk .disable]/\∃m,Sil P true Φ.J (fun g _=>Anch g) m g'
def qz(Nx:Frame->List Frame->Prop)(fr:Frame)(cs:List Frame):Prop:=
 ∃Anch:Goroutine->Prop,(∀g,Anch g->∃m,Sil P true Φ.J (AtW1 P Φ Nx Anch) m g)/\∃m,Sil P true Φ.J (zdp P Φ Anch) m (gor fr cs)
def DQ(i:Nat)(Nx:Frame->List Frame->Heap->Prop)(fr:Frame)(cs:List Frame)(h:Heap):Prop:=
 ∃h1 hc:Heap,Sub h1 h/\Sub hc h/\(∀b,¬Φ.S b->hc b≠none->h1 b=none)/\(∀b,Φ.S b->h1 b=h b) /\
  ∀w,Has w h->Φ.J w->∃fr' cs' frc csc,stepG P true (gor fr cs) w=.spawn (gor fr' cs') (gor frc csc) w #[]/\Works P Φ i frc csc hc/\Nx fr' cs' h1
def Sp(Q:Frame->List Frame->Heap->Prop):Nat->Frame->List Frame->Heap->Prop
 | 0=>fun fr cs h=>Safe P Φ.S (fun fr cs h=>qz P Φ (fun fr' cs'=>Q fr' cs' h) fr cs) fr cs h
 | r+1=>fun fr cs h=>Safe P Φ.S (fun fr cs h=>BM P Φ (fun fr' cs'=>Safe P Φ.S (fun fr cs h=>DQ P Φ (Φ.n-(r+1)) (Sp Q r) fr cs h) fr' cs' h) fr cs) fr cs h
end
def emp:Heap:=fun _=>none
inductive WSit (P:Program) (Φ:Ph) (i:Nat):WS->Nat->Goroutine->Prop
 | put {fr:Frame} {cs:List Frame} {rk:Rk} {f:Nat} {h:Heap}:Ou P Φ.S false Φ.J (JL P Φ i) rk fr cs h->WSit P Φ i ⟨8,rk,f,h⟩ 0 (gor fr cs)
 | rel {g:Goroutine} {rk:Rk} {m:Nat}:Sil P false Φ.J (AtR0 P Φ) m g->WSit P Φ i ⟨7,rk,m,emp⟩ 0 g
 | dis {g:Goroutine} {rk:Rk} {m:Nat}:Sil P false Φ.J (AtK1 P Φ) m g->WSit P Φ i ⟨6,rk,m,emp⟩ 0 g
 | d1 {g:Goroutine} {rk:Rk} {m:Nat}:Sil P false Φ.J (AtD1 P Φ) m g->WSit P Φ i ⟨5,rk,m,emp⟩ 1 g
 | d2 {g:Goroutine} {rk:Rk} {m:Nat}:Sil P false Φ.J (AtD2 P Φ) m g->WSit P Φ i ⟨4,rk,m,emp⟩ 1 g
 | d3 {g:Goroutine} {rk:Rk} {m:Nat}:Sil P false Φ.J (AtD3 P Φ) m g->WSit P Φ i ⟨3,rk,m,emp⟩ 1 g
 | d4 {g:Goroutine} {rk:Rk} {m:Nat}:Sil P false Φ.J (AtD4 P Φ) m g->WSit P Φ i ⟨2,rk,m,emp⟩ 1 g
 | quit {g:Goroutine} {rk:Rk} {m d:Nat}:QuitsD P m d g->WSit P Φ i ⟨1,rk,m,emp⟩ d g
variable {P:Program}{g:Goroutine}{w:World}
theorem Sil.status{main:Bool}{J:World->Prop}{Stop:Goroutine->World->Prop}{n:Nat}(hJ:J w)(hs:∀g w,Stop g w->g.status=.running)(H:Sil P main J Stop n g):g.status=.running:=by
 rcases H.cases with h | ⟨k,_,h,_⟩
 ·exact hs _ _ (h w hJ)
 ·exact h
theorem WSit.status{Φ:Ph}{i d:Nat}{x:WS}(hJ:Φ.J w)(H:WSit P Φ i x d g):g.status=.running\/(g.status=.finished/\x.stage=1):=by
 cases H with
 | put h=>exact .inl rfl
 | rel h=>exact .inl (h.status hJ fun _ _ h=>h.1)
 | dis h=>exact .inl (h.status hJ fun _ _ h=>h.1)
 | d1 h=>exact .inl (h.status hJ fun _ _ h=>h.1)
 | d2 h=>exact .inl (h.status hJ fun _ _ h=>h.1)
 | d3 h=>exact .inl (h.status hJ fun _ _ h=>h.1)
 | d4 h=>exact .inl (h.status hJ fun _ _ h=>h.1)
 | quit h=>exact h.status.imp id fun h=>⟨h,rfl⟩
def WS.lt(y x:WS):Prop:=Prod.Lex (· < ·) (Prod.Lex Rk.lt (· < ·)) (y.stage,y.rk,y.fuel) (x.stage,x.rk,x.fuel)
theorem WS.wf:WellFounded WS.lt:=InvImage.wf (fun x:WS=>(x.stage,x.rk,x.fuel)) (Prod.lex Nat.lt_wfRel (Prod.lex ⟨Rk.lt,Rk.wf⟩ Nat.lt_wfRel)).wf
theorem WS.Aj{x y:WS}(h:y.stage<x.stage):WS.lt y x:=.left _ _ h
theorem WS.zcH{x y:WS}(h:y.stage=x.stage)(hr:Rk.lt y.rk x.rk):WS.lt y x:=by
 obtain⟨s,r,f,hp⟩:=y;obtain⟨s',r',f',hp'⟩:=x;simp only at h hr;subst h;exact .right _ (.left _ _ hr)
theorem WS.Ox{x y:WS}(h:y.stage=x.stage)(hr:y.rk=x.rk)(hf:y.fuel<x.fuel):WS.lt y x:=by
 obtain⟨s,r,f,hp⟩:=y;obtain⟨s',r',f',hp'⟩:=x;simp only at h hr hf;subst h hr;exact .right _ (.right _ hf)
end Go.Eng
namespace Go.Eng
open Go Go.Conc Go.ConcN
open Go.ConcR (KK wgBlock WgAt stA smA rd wr mk g_of_ofEvents Bk DC0 bk_of_mute ofEvent_loc_mark ofEvent_cell ofEvent_mk deafBehind_cons deafBehind_one)
structure InPh(P:Program)(Φ:Ph)(N0 j:Nat)(h:Heap)(T:List WS)(gs:Array Goroutine)(w:World)(t:Trace):Prop where
 len:T.length=N0+j
 jn:j<=Φ.n
 gsz:gs.size=T.length+1
 sit:∀(k:Nat) (x:WS),T[k]? = some x->∃g,gs[k+1]? = some g/\WSit P Φ (k-N0) x (Deaf t (k+1)) g
 old:∀(k:Nat) (x:WS),T[k]? = some x->k<N0->x.stage=1
 CW:Φ.C≠Φ.Wg
 hno:h Φ.Wg=none/\h Φ.C=none
 xno:∀(k:Nat) (x:WS),T[k]? = some x->x.heap Φ.Wg=none/\x.heap Φ.C=none
 lt:Φ.Wg<w.heap.size/\Φ.C<w.heap.size
 pay:Φ.pay w
 quiet:∀(i:Nat) (a:Touch) (ad:Addr),touchAt t i=some a->a.loc=.cell ad->ad.block=Φ.Wg->(a.kind ≠ .plain/\(a.kind=.said->t.g? i=some 0))\/∀k,k=0\/(N0<k/\k<=N0+j)->Knows t k i
 cellF:∀(off i:Nat) (a:Touch),j<=off->touchAt t i=some a->a.loc=.cell ⟨Φ.C,off,none⟩->Knows t 0 i
 cellW:∀(k:Nat) (x:WS),T[k]? = some x->x.stage=8->∀(i:Nat) (a:Touch),touchAt t i=some a->a.loc=.cell ⟨Φ.C,k-N0,none⟩->Knows t (k+1) i
 cC:∀(i:Nat) (a:Touch) (ad:Addr),touchAt t i=some a->a.loc=.cell ad->ad.block=Φ.C->Knows t 0 i\/(a.kind=.plain/\∃k,N0<k/\t.g? i=some k)
 vals:∀(k:Nat) (x:WS),T[k]? = some x->N0<=k->x.stage<8->w.cell? ⟨Φ.C,k-N0,none⟩=some (Φ.val (k-N0))
 rel:∀(k:Nat) (x:WS),T[k]? = some x->N0<=k->x.stage<7->∃r,RelBy (stA Φ.Wg) t (k+1) r
variable {P:Program}{g g' o:Goroutine}{w':World}
theorem Cx(h:o.status=.running\/o.status=.finished):woken P g g' w' o=o:=by
 unfold woken;split
 ·exact again_running _ h
 ·rfl
variable {b i k:Nat}
section
variable {Φ:Ph}{N0 j:Nat}{h h' : Heap}{T:List WS}{gs:Array Goroutine}{w0 w : World}{t:Trace}{es:Array Event}{sl:Option (Nat × Nat)}{st sm:Int}
theorem Com.at{S:Shared}(C:Com w0 S N0 h T w t)(d:Nat):Com w0 S N0 h T (w.at d) t:=
 ⟨C.env,C.has,C.inv,C.hasW,C.apart,C.apart2,C.nr,C.gsb,C.lo,C.norel,C.kn,C.knW,C.ho⟩
theorem InPh.at(I:InPh P Φ N0 j h T gs w t)(d:Nat):InPh P Φ N0 j h T gs (w.at d) t:=
 ⟨I.len,I.jn,I.gsz,I.sit,I.old,I.CW,I.hno,I.xno,I.lt,I.pay,I.quiet,I.cellF,I.cellW,I.cC,I.vals,I.rel⟩
theorem InPh.J(I:InPh P Φ N0 j h T gs w t)(hw:WgAt Φ.ty Φ.Wg w st sm):Φ.J w:=⟨⟨_,_,hw⟩,I.pay⟩
def q9(P:Program)(gs:Array Goroutine)(k:Nat)(g g':Goroutine)(w':World):Array Goroutine:=(gs.map (woken P g g' w')).setIfInBounds (k+1) g'
theorem RG(hk:gs[k+1]? = some g)(hs:stepG P false g w=.go g' w' es) :
  runT P (crowd gs w sl) (k+1)=(.next (crowd (q9 P gs k g g' w') w' sl),MemOp.ofEvents (k+1) g.frame.fn g.frame.place es):=runT_crowd_go hk hs
theorem EJ{g g' g0:Goroutine}(h0:gs[0]? = some g0):(q9 P gs k g g' w')[0]? = some (woken P g g' w' g0):=by
 unfold q9;rw[get_map_set _ _ _ _ (by omega),h0];rfl
theorem Jh(hk:gs[k+1]? = some g):(q9 P gs k g g' w')[k+1]? = some g':=by
 unfold q9;exact get_map_set_same _ _ _ (uS.1 hk).1
theorem Nc(hne:i≠k)(hi:gs[i+1]? = some o)(ho:o.status=.running\/o.status=.finished):(q9 P gs k g g' w')[i+1]? = some o:=by
 unfold q9;rw[get_map_set _ _ _ _ (by omega),hi,pK,Cx ho]
theorem WH(fn:FuncId)(pos:String)(es:Array Event)(hne:i≠k):Deaf (t++MemOp.ofEvents (k+1) fn pos es) (i+1)=Deaf t (i+1):=Deaf_other t (by omega) _ g_of_ofEvents
def zdq(Φ:Ph)(k N0:Nat)(isPut:Prop)(e:Event):Prop:=
 ∀b,(MemAct.ofEvent e).touch? = some b->∃ad,b.loc=.cell ad/\(ad.block=Φ.Wg->b.kind=.atomic)/\(ad.block=Φ.C->isPut/\ad=⟨Φ.C,k-N0,none⟩/\b.kind=.plain)
theorem InPh.step(I:InPh P Φ N0 j h T gs w t)(hJ:Φ.J w){k:Nat}{g g':Goroutine}{x y:WS}(hk:gs[k+1]? = some g)(hx:T[k]? = some x)(fn:FuncId)(pos:String){isPut:Prop}(hes:∀e∈es,zdq Φ k N0 isPut e)
  (hN:N0<=k\/∀e∈es,(MemAct.ofEvent e).touch? = none)(hy:WSit P Φ (k-N0) y (deafBehind (Deaf t (k+1)) es) g')(hold:k<N0->y.stage=1)(hyno:y.heap Φ.Wg=none/\y.heap Φ.C=none)
  (hput:isPut->x.stage=8)(h8:y.stage=8->x.stage=8)(hlt:w.heap.size<=w'.heap.size)(hpay:Φ.pay w')(zg:∀off,(off≠k-N0\/k<N0)->w'.cell? ⟨Φ.C,off,none⟩=w.cell? ⟨Φ.C,off,none⟩)
  (hval:N0<=k->y.stage<8->w'.cell? ⟨Φ.C,k-N0,none⟩=some (Φ.val (k-N0)))(hrel:N0<=k->y.stage<7->∃r,RelBy (stA Φ.Wg) (t++MemOp.ofEvents (k+1) fn pos es) (k+1) r) :
  InPh P Φ N0 j h (T.set k y) (q9 P gs k g g' w') w' (t++MemOp.ofEvents (k+1) fn pos es):=by
 have hg:∀op∈MemOp.ofEvents (k+1) fn pos es,op.g=k+1:=g_of_ofEvents;have hkl:k<T.length:=(vS.1 hx).1;have evt:∀ {op:MemOp} {b:Touch},op∈MemOp.ofEvents (k+1) fn pos es->op.act.touch? = some b->N0<=k/\∃ad,b.loc=.cell ad/\(ad.block=Φ.Wg->b.kind=.atomic)/\(ad.block=Φ.C->isPut/\ad=⟨Φ.C,k-N0,none⟩/\b.kind=.plain):=fun hop hb=>by
  obtain⟨e,he,rfl⟩:=yS hop;refine⟨hN.resolve_right fun h=>?_,hes e he _ hb⟩;have:=h e he;simp only at hb;rw[this]at hb;cases hb
 refine⟨by rw[uR];exact I.len,I.jn,by rw[uR,<-I.gsz];simp[q9],?_,?_,I.CW,I.hno,?_,⟨by have:=I.lt;omega,by have:=I.lt;omega⟩,hpay,?_,?_,?_,?_,?_,?_⟩
 ·intro i z hz;rcases yP hz with⟨rfl,rfl⟩ | ⟨hi,hz⟩
  ·exact⟨g',Jh hk,by rw[Deaf_own];exact hy⟩
  ·obtain⟨o,ho,hs⟩:=I.sit i z hz;exact⟨o,Nc (uW hi) ho ((hs.status hJ).imp id fun h=>h.1),by rw[WH fn pos es (uW hi)];exact hs⟩
 ·intro i z hz hi;rcases yP hz with⟨rfl,rfl⟩ | ⟨_,hz⟩
  ·exact hold hi
  ·exact I.old i z hz hi
 ·intro i z hz;rcases yP hz with⟨rfl,rfl⟩ | ⟨_,hz⟩
  ·exact hyno
  ·exact I.xno i z hz
 ·intro i a ad ha hl hb;rcases yD ha with⟨hlt,h1⟩ | ⟨op,h1,h2,h3⟩
  ·rcases I.quiet i a ad h1 hl hb with⟨h4,h5⟩ | h4
   ·exact .inl ⟨h4,fun h=>by rw[g?_old hlt];exact h5 h⟩
   ·exact .inr fun k hk=>j6 (h4 k hk)
  ·obtain⟨_,ad2,e1,e2,_⟩:=evt h1 h2;rw[hl]at e1;cases e1
   exact .inl ⟨by rw[e2 hb];simp,by rw[e2 hb];simp⟩
 ·intro off i a ho ha hl;rcases yD ha with⟨hlt,h1⟩ | ⟨op,h1,h2,h3⟩
  ·exact j6 (I.cellF off i a ho h1 hl)
  ·obtain⟨hNk,ad2,e1,_,e2⟩:=evt h1 h2;rw[hl]at e1;cases e1
   have e3:=(e2 rfl).2.1;simp only[Addr.mk.injEq,pL,uA]at e3;have:=I.len;omega
 ·intro i z hz hz8 q a ha hl;rcases yD ha with⟨hlt,h1⟩ | ⟨op,h1,h2,h3⟩
  ·rcases yP hz with⟨rfl,rfl⟩ | ⟨_,hz⟩
   ·exact j6 (I.cellW k x hx (h8 hz8) q a h1 hl)
   ·exact j6 (I.cellW i z hz hz8 q a h1 hl)
  ·obtain⟨hNk,ad2,e1,_,e2⟩:=evt h1 h2;rw[hl]at e1;cases e1
   have e3:=(e2 rfl).2.1;simp only[Addr.mk.injEq,pL,uA]at e3;have hiN:N0<=i:=by
    rcases yP hz with⟨rfl,rfl⟩ | ⟨_,hz⟩
    ·exact hNk
    ·refine Nat.le_of_not_lt fun hlt=>?_
     have:=I.old i z hz hlt;omega
   obtain rfl:i=k:=by omega
   have:=knows_own h3;rwa[hg op h1]at this
 ·intro i a ad ha hl hb;rcases yD ha with⟨hlt,h1⟩ | ⟨op,h1,h2,h3⟩
  ·rcases I.cC i a ad h1 hl hb with h4 | ⟨h4,q,h5,h6⟩
   ·exact .inl (j6 h4)
   ·exact .inr ⟨h4,q,h5,by rw[g?_old hlt];exact h6⟩
  ·obtain⟨hNk,ad2,e1,_,e2⟩:=evt h1 h2;rw[hl]at e1;cases e1
   exact .inr ⟨(e2 hb).2.2,k+1,by omega,by simp[Trace.g?,h3,hg op h1]⟩
 ·intro i z hz hi hs;rcases yP hz with⟨rfl,rfl⟩ | ⟨hne,hz⟩
  ·exact hval hi hs
  ·rw[zg _ (by omega)];exact I.vals i z hz hi hs
 ·intro i z hz hi hs;rcases yP hz with⟨rfl,rfl⟩ | ⟨hne,hz⟩
  ·exact hrel hi hs
  ·obtain⟨r,hr⟩:=I.rel i z hz hi hs;exact⟨r,hr.appOther hg (by omega)⟩
inductive Turn (P:Program) (g g':Goroutine) (a b:Nat) (st sm:Int):Int->Int->Prop
 | same:b=a\/(5<=a/\5<=b)->Turn P g g' a b st sm st sm
 | add {v wt:Nat}:wt<=1->a=5->st=(v+1)*KK+wt->b=(if v=0/\wt=1 then 4 else 1)->Turn P g g' a b st sm (v*KK+wt) 0
 | seen:a=4->b=3->Turn P g g' a b st sm st sm
 | nought:a=3->b=2->Turn P g g' a b st sm 0 0
 | gone:a=2->b=1->mayWake P g=true->g'.status ≠ .blocked/\g'.status ≠ .waiting->Turn P g g' a b st sm 0 1
structure Fits(a:Nat)(st sm:Int):Prop where
 five:a=5->∃v wt:Nat,wt<=1/\v<2147483647/\st=(v+1)*KK+wt/\sm=0
 mid:a=4\/a=3->st=1/\sm=0
 two:a=2->st=0/\sm=0
def RH(P:Program)(Φ:Ph)(N0 j:Nat)(h:Heap)(T:List WS)(gs:Array Goroutine)(w0 w:World)(t:Trace)(k:Nat)(g:Goroutine)(x:WS)(st sm:Int):Prop:=
 ∃g' w' es y st' sm',stepG P false g w=.go g' w' es/\WS.lt y x/\Com w0 Φ.S N0 h (T.set k y) w' (t++MemOp.ofEvents (k+1) g.frame.fn g.frame.place es) /\
  InPh P Φ N0 j h (T.set k y) (q9 P gs k g g' w') w' (t++MemOp.ofEvents (k+1) g.frame.fn g.frame.place es)/\WgAt Φ.ty Φ.Wg w' st' sm'/\Turn P g g' x.stage y.stage st sm st' sm'
theorem Nd(ha:Aside b w w'){c off:Nat}(hc:c≠b):w'.cell? ⟨c,off,none⟩=w.cell? ⟨c,off,none⟩:=by
 simp only[World.cell?,ha.block c hc]
theorem qZ(C:Com w0 Φ.S N0 h T w t)(I:InPh P Φ N0 j h T gs w t)(hw:WgAt Φ.ty Φ.Wg w st sm){x y:WS}(hk:gs[k+1]? = some g)(hx:T[k]? = some x)(hs:stepG P false g w=.go g' w' es){st' sm':Int}
  (hA:Aside Φ.Wg w w')(hw':WgAt Φ.ty Φ.Wg w' st' sm')(hbk:∀e∈es,Bk Φ.Wg e\/e=mk (.releaseMerge (stA Φ.Wg)))(hN:N0<=k\/∀e∈es,(MemAct.ofEvent e).touch? = none)
  (hy:WSit P Φ (k-N0) y (deafBehind (Deaf t (k+1)) es) g')(hxe:x.heap=emp)(hye:y.heap=emp)(hold:k<N0->y.stage=1)(h8:y.stage<8)(hx8:x.stage<8)
  (hrel:N0<=k->y.stage<7->∃r,RelBy (stA Φ.Wg) (t++MemOp.ofEvents (k+1) g.frame.fn g.frame.place es) (k+1) r)(hlt:WS.lt y x)(htn:Turn P g g' x.stage y.stage st sm st' sm') :
  RH P Φ N0 j h T gs w0 w t k g x st sm:=by
 have hkl:k<T.length:=(vS.1 hx).1;have tch:∀e∈es,∀b,(MemAct.ofEvent e).touch? = some b->∃ad,b.loc=.cell ad/\ad.block=Φ.Wg/\b.kind=.atomic:=by
  intro e he b hb;rcases hbk e he with h1 | rfl
  ·rcases h1 with h1 | h1 | ⟨a,q,rfl,ha⟩
   ·rw[ofEvent_loc_mark h1]at hb;cases hb
   ·rw[ofEvent_loc_mark h1]at hb;cases hb
   ·rw[ofEvent_cell]at hb;simp only[MemAct.touch?,uZ]at hb;subst hb;exact⟨a,rfl,ha,rfl⟩
  ·cases hb
 refine⟨g',w',es,y,st',sm',hs,hlt,?_,?_,hw',htn⟩
 ·refine C.other (g:=k+1) (by omega) g_of_ofEvents (uR ..) ?_ ⟨hA.os,hA.tape,hA.output⟩ hA.size ?_ ?_ ?_ ?_
  ·intro i z hz;rcases yP hz with⟨rfl,rfl⟩ | ⟨_,hz⟩
   ·exact⟨x,hx,fun b hb=>by rw[hye]at hb;exact absurd rfl hb⟩
   ·exact⟨z,hz,fun b _=>rfl⟩
  ·intro b hb;refine hA.block b fun e=>?_
   subst e;rcases hb with hb | ⟨i,z,hz,hb⟩
   ·exact hb I.hno.1
   ·exact hb (I.xno i z hz).1
  ·intro op hop b hb;obtain⟨e,he,rfl⟩:=yS hop;obtain⟨ad,h1,h2,h3⟩:=tch e he b hb;refine⟨ad,h1,by rw[h2];exact I.lt.1,by rw[h2];exact I.hno.1,fun i z hz=>by rw[h2];exact(I.xno i z hz).1,fun said i a ha hc=>?_⟩;have hNk:N0<=k:=hN.resolve_right fun h=>by have:=h e he;simp only at hb;rw[this]at hb;cases hb
   rcases I.quiet i a ad ha (hc.1.trans h1) h2 with⟨h4,_⟩ | h4
   ·rcases hc.2.2.2 with h5 | h5 | ⟨_,_,h5⟩
    ·exact absurd h5 h4
    ·rw[h3]at h5;cases h5
    ·rw[h3]at h5;cases h5
   ·exact h4 _ (.inr ⟨by omega,by have:=I.len;omega⟩)
  ·intro op hop a hr;obtain⟨e,he,rfl⟩:=yS hop;simp only at hr;rcases hbk e he with h1 | rfl
   ·rcases h1 with h1 | h1 | ⟨a,q,rfl,ha⟩
    ·rw[ofEvent_loc_mark h1]at hr;cases hr
    ·rw[ofEvent_loc_mark h1]at hr;cases hr
    ·rw[ofEvent_cell]at hr;cases hr
   ·cases hr
  ·rcases hN with h1 | h1
   ·exact .inr (.inl (by omega))
   ·refine .inr (.inr fun op hop=>?_);obtain⟨e,he,rfl⟩:=yS hop;exact h1 e he
 ·obtain⟨cs,hc1,hc2⟩:=I.pay;refine I.step (I.J hw) hk hx _ _ (isPut:=False) (fun e he b hb=>?_) hN hy hold (by rw[hye];exact⟨rfl,rfl⟩) False.elim (fun h=>by omega) (by rw[hA.size];exact uN _) ⟨cs,(hA.block _ I.CW).trans hc1,hc2⟩ (fun off _=>Nd hA I.CW)
   (fun hNk h=>by rw[Nd hA I.CW];exact I.vals k x hx hNk hx8) hrel
  obtain⟨ad,h1,h2,h3⟩:=tch e he b hb;exact⟨ad,h1,fun _=>h3,fun e=>absurd (e.symm.trans h2) I.CW⟩
theorem Po(hb:w'.heap[b]? = w.heap[b]?)(off:Nat):w'.cell? ⟨b,off,none⟩=w.cell? ⟨b,off,none⟩:=by
 simp only[World.cell?,hb]
theorem zas(C:Com w0 Φ.S N0 h T w t)(I:InPh P Φ N0 j h T gs w t)(hw:WgAt Φ.ty Φ.Wg w st sm){fr fr':Frame}{cs cs':List Frame}{x:WS}(hk:gs[k+1]? = some (gor fr cs))(hx:T[k]? = some x)(hs:stepG P false (gor fr cs) w=.go (gor fr' cs') w' es)
  (K:Kept Φ.S x.heap h' w w')(hes:∀e∈es,AO Φ.S x.heap w w' e){rk:Rk}(hR:Ou P Φ.S false Φ.J (JL P Φ (k-N0)) rk fr' cs' h')(hx8:x.stage=8)(hlt:Rk.lt rk x.rk)(hd:Deaf t (k+1)=0)(hN:N0<=k) :
  RH P Φ N0 j h T gs w0 w t k (gor fr cs) x st sm:=by
 obtain⟨hxW,hxC⟩:=I.xno k x hx;have hW:=(K.old Φ.Wg I.lt.1 hxW);have hC:=(K.old Φ.C I.lt.2 hxC);have dz:deafBehind (Deaf t (k+1)) es=0:=by
  rw[hd];refine deafBehind_idle (fun e he=>?_) 0;rcases hes e he with⟨a,h1,_⟩ | ⟨m,hm,rfl⟩
  ·rw[h1];exact⟨by simp,by simp⟩
  ·cases m <;> simp[Quiet]at hm ⊢
 obtain⟨xs,hc1,hc2⟩:=I.pay;refine⟨gor fr' cs',w',es,⟨8,rk,x.fuel,h'⟩,st,sm,hs,WS.zcH hx8.symm hlt,C.worker hx hN K hes _ _ rfl,?_,hW.1.trans hw,.same (.inl hx8.symm)⟩;refine I.step (I.J hw) hk hx _ _ (isPut:=False) (fun e he b hb=>?_) (.inl hN) (by rw[dz];exact .put hR) (fun h=>by omega) ⟨hW.2,hC.2⟩ False.elim (fun _=>hx8) K.size ⟨xs,hC.1.trans hc1,hc2⟩ (fun off _=>Po hC.1 off)
  (fun _ h=>by simp only at h;omega) (fun _ h=>by simp only at h;omega)
 have hop:({ g:=0,fn:=0,pos := "",act:=.ofEvent e }:MemOp)∈MemOp.ofEvents 0 0 "" #[e]:=by simp[MemOp.ofEvents]
 obtain⟨ad,h1,h2,h3,_,_⟩:=jV (S:=Φ.S) (h:=x.heap) (w:=w) (w':=w') (es:=#[e]) (fun e' he'=>by simp at he';rw[he'];exact hes e he) hop hb;refine⟨ad,h1,fun e1=>?_,fun e1=>?_⟩
 ·rw[e1]at h3;rcases h3 with h3 | h3
  ·exact absurd hxW h3
  ·have:=I.lt.1;omega
 ·rw[e1]at h3;rcases h3 with h3 | h3
  ·exact absurd hxC h3
  ·have:=I.lt.2;omega
theorem zat(C:Com w0 Φ.S N0 h T w t)(I:InPh P Φ N0 j h T gs w t)(hw:WgAt Φ.ty Φ.Wg w st sm){x:WS}(hk:gs[k+1]? = some g)(hx:T[k]? = some x)
  (hs:stepG P false g w=.go g' (w.setCell ⟨Φ.C,k-N0,none⟩ (Φ.val (k-N0))) #[⟨.cell ⟨Φ.C,k-N0,none⟩,true,false⟩]){m:Nat}(hR:Sil P false Φ.J (AtR0 P Φ) m g')(hx8:x.stage=8)(hd:Deaf t (k+1)=0)(hN:N0<=k) :
  RH P Φ N0 j h T gs w0 w t k g x st sm:=by
 have hkl:k<T.length:=(vS.1 hx).1;have hA:Aside Φ.C w (w.setCell ⟨Φ.C,k-N0,none⟩ (Φ.val (k-N0))):=aside_setCell w ⟨Φ.C,k-N0,none⟩ _;obtain⟨xs,hc1,hc2⟩:=I.pay;have hkn:k-N0<Φ.n:=by have:=I.len;have:=I.jn;omega
 have hrow:(w.setCell ⟨Φ.C,k-N0,none⟩ (Φ.val (k-N0))).heap[Φ.C]? = some (.cells (xs.setIfInBounds (k-N0) (Φ.val (k-N0))) Φ.ety):=by
  rw[setCell_eq_setRow w Φ.C (k-N0) xs Φ.ety (0,0) _ hc1,setRow_heap w Φ.C _ _ Φ.ety _ hc1]
 have tch:∀ {fn:FuncId} {pos:String} {op:MemOp} {b:Touch},op∈MemOp.ofEvents (k+1) fn pos #[⟨.cell ⟨Φ.C,k-N0,none⟩,true,false⟩]->op.act.touch? = some b->b=⟨.cell ⟨Φ.C,k-N0,none⟩,true,.plain⟩:=fun hop hb=>by
  obtain⟨e,he,rfl⟩:=yS hop;simp only[nP,uO]at he;subst he;simp only[ofEvent_cell,MemAct.touch?,uZ]at hb;exact hb.symm
 refine⟨g',_,_,⟨7,x.rk,m,emp⟩,st,sm,hs,WS.Aj (by rw[hx8];show 7<8;omega),?_,?_,(hA.block _ (uW I.CW)).trans hw,.same (.inr ⟨by omega,by show 5<=7;omega⟩)⟩
 ·refine C.other (g:=k+1) (by omega) g_of_ofEvents (uR ..) ?_ ⟨hA.os,hA.tape,hA.output⟩ hA.size ?_ ?_ ?_ (.inr (.inl (by omega)))
  ·intro i z hz;rcases yP hz with⟨rfl,rfl⟩ | ⟨_,hz⟩
   ·exact⟨x,hx,fun b hb=>absurd rfl hb⟩
   ·exact⟨z,hz,fun b _=>rfl⟩
  ·intro b hb;refine hA.block b fun e=>?_
   subst e;rcases hb with hb | ⟨i,z,hz,hb⟩
   ·exact hb I.hno.2
   ·exact hb (I.xno i z hz).2
  ·intro op hop b hb;have e:=tch hop hb;subst e;exact⟨_,rfl,I.lt.2,I.hno.2,fun i z hz=>(I.xno i z hz).2,fun said i a ha hc=>I.cellW k x hx hx8 i a ha hc.1⟩
  ·intro op hop a hr;obtain⟨e,he,rfl⟩:=yS hop;simp only[nP,uO]at he;subst he;simp[ofEvent_cell]at hr
 ·refine I.step (I.J hw) hk hx _ _ (isPut:=True) (fun e he b hb=>?_) (.inl hN) ?_ (fun h=>by omega) ⟨rfl,rfl⟩ (fun _=>hx8) (fun h=>by simp at h) (by rw[hA.size];exact uN _) ⟨_,hrow,by simp[hc2]⟩ (fun off ho=>?_) (fun _ _=>?_) (fun _ h=>by simp at h)
  ·simp only[nP,uO]at he;subst he;simp only[ofEvent_cell,MemAct.touch?,uZ]at hb;subst hb;exact⟨_,rfl,fun e=>absurd e I.CW,fun _=>⟨trivial,rfl,rfl⟩⟩
  ·have e:deafBehind (Deaf t (k+1)) #[⟨.cell ⟨Φ.C,k-N0,none⟩,true,false⟩]=0:=by rw[hd];rfl
   rw[e];exact .rel hR
  ·simp only[World.cell?,hrow,hc1];rw[nD (by omega)]
  ·simp only[World.cell?,hrow];simp[hc2,hkn]
end
end Go.Eng
namespace Go.Eng
open Go Go.Conc Go.ConcN
open Go.ConcR (KK wgBlock WgAt stA smA rd wr mk g_of_ofEvents Bk DC0 bk_of_mute ofEvent_loc_mark ofEvent_cell ofEvent_mk deafBehind_cons deafBehind_one)
variable {d k:Nat}{g:Goroutine}
section
variable {P:Program}{Φ:Ph}{N0 j:Nat}{h h' : Heap}{T:List WS}{gs:Array Goroutine}{w0 w w' : World}{t:Trace}{es:Array Event}{sl:Option (Nat × Nat)}{st sm:Int}
theorem Fits.keep{a:Nat}(F:Fits a st sm):Fits a st sm:=F
theorem DR(C:Com w0 Φ.S N0 h T w t)(I:InPh P Φ N0 j h T gs w t)(hw:WgAt Φ.ty Φ.Wg w st sm){g g':Goroutine}{x:WS}(hk:gs[k+1]? = some g)(hx:T[k]? = some x)(hs:stepG P false g w=.go g' w #[])
  (hxe:x.heap=emp)(hx8:x.stage<8){m:Nat}(hy:WSit P Φ (k-N0) ⟨x.stage,x.rk,m,emp⟩ (Deaf t (k+1)) g')(hm:m<x.fuel)(hN:N0<=k\/x.stage=1):RH P Φ N0 j h T gs w0 w t k g x st sm:=by
 refine qZ C I hw hk hx hs (y:=⟨x.stage,x.rk,m,emp⟩) (Aside.refl _ _) hw (fun e he=>by simp at he) (.inr fun e he=>by simp at he) hy hxe rfl (fun hlt=>I.old k x hx hlt) hx8 hx8 (fun hNk h7=>?_) (WS.Ox rfl rfl hm) (.same (.inl rfl));obtain⟨r,hr⟩:=I.rel k x hx hNk h7;exact⟨r,hr.book (Wg:=Φ.Wg) rfl _ _ (fun e he=>by simp at he) (fun j e he=>by simp at he)⟩
theorem zau(hd:0<d)(a b:Addr):∀(j:Nat) (e:Event),(#[rd a,wr b]:Array Event)[j]? = some e->(MemAct.ofEvent e).touch? = none\/0<deafBehind d ((#[rd a,wr b]:Array Event).extract 0 j):=by
 intro j e he;refine .inr ?_;rcases j with _ | _ | j
 ·exact hd
 ·exact hd
 ·simp at he
theorem RI(hd:0<d)(e0:Event):∀(j:Nat) (e:Event),(#[e0]:Array Event)[j]? = some e->(MemAct.ofEvent e).touch? = none\/0<deafBehind d ((#[e0]:Array Event).extract 0 j):=by
 intro j e he;rcases j with _ | j
 ·exact .inr hd
 ·simp at he
theorem Yx(hd:0<d)(a:Addr):∀(j:Nat) (e:Event),(semEvents a)[j]? = some e->(MemAct.ofEvent e).touch? = none\/0<deafBehind d ((semEvents a).extract 0 j):=by
 intro j e he;refine .inr ?_;rcases j with _ | _ | _ | _ | j
 ·exact hd
 ·show 0<d+1;omega
 ·show 0<d+1;omega
 ·show 0<d+1;omega
 ·simp[semEvents]at he
theorem bk_sem{Wg:Nat}(a:Addr)(h:a.block=Wg):∀e∈semEvents a,Bk Wg e:=by
 intro e he;simp only[semEvents,nP,uU,pB,nA]at he;rcases he with rfl | rfl | rfl | rfl
 ·exact .inl rfl
 ·exact bk_cell _ _ h
 ·exact bk_cell _ _ h
 ·exact .inr (.inl rfl)
theorem Zh(C:Com w0 Φ.S N0 h T w t)(I:InPh P Φ N0 j h T gs w t)(hw:WgAt Φ.ty Φ.Wg w st sm){x:WS}(hk:gs[k+1]? = some g)(hx:T[k]? = some x)(hrun:g.status=.running)(F:Fits x.stage st sm) :
  RH P Φ N0 j h T gs w0 w t k g x st sm:=by
 obtain⟨g1,hg1,hs⟩:=I.sit k x hx;obtain rfl:g1=g:=by rw[hk]at hg1;exact(pT hg1).symm
 have hJ:=I.J hw;have young:x.stage≠1->N0<=k:=fun h=>Nat.le_of_not_lt fun hlt=>h (I.old k x hx hlt)
 generalize hd:Deaf t (k+1)=dd at hs;have hAst:∀v:Int,Aside Φ.Wg w (w.setCell (stA Φ.Wg) (.int .u64 v)):=fun v=>aside_setCell w (stA Φ.Wg) _
 have hAsm:∀v:Int,Aside Φ.Wg w (w.setCell (smA Φ.Wg) (.int .u32 v)):=fun v=>aside_setCell w (smA Φ.Wg) _
 cases hs with
 | @put fr cs rk f hp hR=>
  have hNk:=young (by simp);cases rk with
  | leaf=>
   obtain⟨g',h1,m,h2⟩:=hR w (C.hasW k _ hx) hJ;exact zat C I hw hk hx h1 h2 rfl hd hNk
  | node f=>
   obtain⟨fr',cs',w',es,h',h1,h2,h3,h4⟩:=hR w (C.hasW k _ hx) hJ;exact zas C I hw hk hx h1 h2 h3 h4 rfl ⟨f,w,rfl,rfl⟩ hd hNk
 | @rel _ rk m hR=>
  have hNk:=young (by simp);rcases hR.cases with hst | ⟨m',rfl,_,hst⟩
  ·obtain⟨_,g',h1,m',h2⟩:=hst w hJ;refine qZ C I hw hk hx h1 (y:=⟨6,rk,m',emp⟩) (Aside.refl _ _) hw (fun e he=>?_) (.inl hNk) (by rw[hd];exact .dis h2) rfl rfl (fun h=>by omega) (by show 6<8;omega) (by show 7<8;omega) (fun _ _=>⟨_,RelBy.new hd _ _⟩) (WS.Aj (by show 6<7;omega)) (.same (.inr ⟨by show 5<=7;omega,by show 5<=6;omega⟩));simp only[nP,uO]at he;exact .inr he
  ·obtain⟨g',h1,h2⟩:=hst w hJ;exact DR C I hw hk hx h1 rfl (by show 7<8;omega) (by rw[hd];exact .rel h2) (mZ _) (.inl hNk)
 | @dis _ rk m hR=>
  have hNk:=young (by simp);rcases hR.cases with hst | ⟨m',rfl,_,hst⟩
  ·obtain⟨_,g',h1,m',h2⟩:=hst w hJ;have hb:∀e∈(#[mk .disable]:Array Event),Bk Φ.Wg e:=fun e he=>by
    simp only[nP,uO]at he;exact .inl (by rw[he];rfl)
   refine qZ C I hw hk hx h1 (y:=⟨5,rk,m',emp⟩) (Aside.refl _ _) hw (fun e he=>.inl (hb e he)) (.inl hNk) (by rw[hd];exact .d1 h2) rfl rfl (fun h=>by omega) (by show 5<8;omega) (by show 6<8;omega) (fun _ _=>?_) (WS.Aj (by show 5<6;omega)) (.same (.inr ⟨by show 5<=6;omega,by show 5<=5;omega⟩));obtain⟨r,hr⟩:=I.rel k _ hx hNk (by show 6<7;omega);refine⟨r,hr.book hd _ _ hb fun j e he=>.inl ?_⟩;rcases j with _ | j
   ·simp at he;rw[<-he];rfl
   ·simp at he
  ·obtain⟨g',h1,h2⟩:=hst w hJ;exact DR C I hw hk hx h1 rfl (by show 6<8;omega) (by rw[hd];exact .dis h2) (mZ _) (.inl hNk)
 | @d1 _ rk m hR=>
  have hNk:=young (by simp);rcases hR.cases with hst | ⟨m',rfl,_,hst⟩
  ·obtain⟨v,wt,hwt,hv,rfl,rfl⟩:=F.five rfl;obtain⟨_,h0⟩:=hst w hJ;obtain⟨g',h1,h2,h3⟩:=h0 v wt hwt hv hw;have hb:∀e∈(#[rd (stA Φ.Wg),wr (stA Φ.Wg)]:Array Event),Bk Φ.Wg e:=fun e he=>by
    simp only[nP,uU,pB,nA]at he;rcases he with rfl | rfl <;> exact bk_cell _ _ rfl
   obtain⟨r,hr⟩:=I.rel k _ hx hNk (by show 5<7;omega);have hr':=hr.book hd g1.frame.fn g1.frame.place hb (zau (by omega) _ _);by_cases hc:v=0/\wt=1
   ·obtain⟨m',h4⟩:=h2 hc;exact qZ C I hw hk hx h1 (y:=⟨4,rk,m',emp⟩) (hAst _) (hw.setSt _) (fun e he=>.inl (hb e he)) (.inl hNk) (by rw[hd];exact .d2 h4) rfl rfl (fun h=>by omega) (by show 4<8;omega) (by show 5<8;omega) (fun _ _=>⟨r,hr'⟩) (WS.Aj (by show 4<5;omega)) (.add hwt rfl rfl (by rw[vP hc]))
   ·obtain⟨m',h4⟩:=h3 hc;exact qZ C I hw hk hx h1 (y:=⟨1,rk,m',emp⟩) (hAst _) (hw.setSt _) (fun e he=>.inl (hb e he)) (.inl hNk) (by rw[hd];exact .quit h4) rfl rfl (fun _=>rfl) (by show 1<8;omega) (by show 5<8;omega) (fun _ _=>⟨r,hr'⟩) (WS.Aj (by show 1<5;omega)) (.add hwt rfl rfl (by rw[vM hc]))
  ·obtain⟨g',h1,h2⟩:=hst w hJ;exact DR C I hw hk hx h1 rfl (by show 5<8;omega) (by rw[hd];exact .d1 h2) (mZ _) (.inl hNk)
 | @d2 _ rk m hR=>
  have hNk:=young (by simp);rcases hR.cases with hst | ⟨m',rfl,_,hst⟩
  ·obtain⟨rfl,rfl⟩:=F.mid (.inl rfl);obtain⟨_,h0⟩:=hst w hJ;obtain⟨g',h1,m',h2⟩:=h0 hw;have hb:∀e∈(#[rd (stA Φ.Wg)]:Array Event),Bk Φ.Wg e:=fun e he=>by
    simp only[nP,uO]at he;subst he;exact bk_cell _ _ rfl
   obtain⟨r,hr⟩:=I.rel k _ hx hNk (by show 4<7;omega);exact qZ C I hw hk hx h1 (y:=⟨3,rk,m',emp⟩) (Aside.refl _ _) hw (fun e he=>.inl (hb e he)) (.inl hNk) (by rw[hd];exact .d3 h2) rfl rfl (fun h=>by omega) (by show 3<8;omega) (by show 4<8;omega) (fun _ _=>⟨r,hr.book hd _ _ hb (RI (by omega) _)⟩) (WS.Aj (by show 3<4;omega)) (.seen rfl rfl)
  ·obtain⟨g',h1,h2⟩:=hst w hJ;exact DR C I hw hk hx h1 rfl (by show 4<8;omega) (by rw[hd];exact .d2 h2) (mZ _) (.inl hNk)
 | @d3 _ rk m hR=>
  have hNk:=young (by simp);rcases hR.cases with hst | ⟨m',rfl,_,hst⟩
  ·obtain⟨rfl,rfl⟩:=F.mid (.inr rfl);obtain⟨_,h0⟩:=hst w hJ;obtain⟨g',h1,m',h2⟩:=h0 hw;have hb:∀e∈(#[wr (stA Φ.Wg)]:Array Event),Bk Φ.Wg e:=fun e he=>by
    simp only[nP,uO]at he;subst he;exact bk_cell _ _ rfl
   obtain⟨r,hr⟩:=I.rel k _ hx hNk (by show 3<7;omega);exact qZ C I hw hk hx h1 (y:=⟨2,rk,m',emp⟩) (hAst _) (hw.setSt _) (fun e he=>.inl (hb e he)) (.inl hNk) (by rw[hd];exact .d4 h2) rfl rfl (fun h=>by omega) (by show 2<8;omega) (by show 3<8;omega) (fun _ _=>⟨r,hr.book hd _ _ hb (RI (by omega) _)⟩) (WS.Aj (by show 2<3;omega)) (.nought rfl rfl)
  ·obtain⟨g',h1,h2⟩:=hst w hJ;exact DR C I hw hk hx h1 rfl (by show 3<8;omega) (by rw[hd];exact .d3 h2) (mZ _) (.inl hNk)
 | @d4 _ rk m hR=>
  have hNk:=young (by simp);rcases hR.cases with hst | ⟨m',rfl,_,hst⟩
  ·obtain⟨rfl,rfl⟩:=F.two rfl;obtain⟨_,hwk,h0⟩:=hst w hJ;obtain⟨g',h1,m',h2⟩:=h0 hw;have hb:=bk_sem (smA Φ.Wg) (Wg:=Φ.Wg) rfl;obtain⟨r,hr⟩:=I.rel k _ hx hNk (by show 2<7;omega);refine qZ C I hw hk hx h1 (y:=⟨1,rk,m',emp⟩) (hAsm _) (hw.setSm _) (fun e he=>.inl (hb e he)) (.inl hNk) (by rw[hd];exact .quit h2) rfl rfl (fun _=>rfl) (by show 1<8;omega) (by show 2<8;omega) (fun _ _=>⟨r,hr.book hd _ _ hb (Yx (by omega) _)⟩) (WS.Aj (by show 1<2;omega)) (.gone rfl rfl hwk ?_);rcases h2.status with h | h <;> rw[h] <;> exact⟨by simp,by simp⟩
  ·obtain⟨g',h1,h2⟩:=hst w hJ;exact DR C I hw hk hx h1 rfl (by show 2<8;omega) (by rw[hd];exact .d4 h2) (mZ _) (.inl hNk)
 | @quit _ rk m d hQ=>
  cases m with
  | zero=>rw[hQ.1]at hrun;cases hrun
  | succ m=>
   rcases hQ with⟨h1,_⟩ | ⟨_,g',es,hm,h1,h2⟩
   ·rw[h1]at hrun;cases hrun
   ·have ht:∀e∈es,(MemAct.ofEvent e).touch? = none:=fun e he=>by
     rcases bk_of_mute (Wg:=Φ.Wg) (hm e he)with h3 | h3 | ⟨a,q,h3,_⟩
     ·rw[ofEvent_loc_mark h3];rfl
     ·rw[ofEvent_loc_mark h3];rfl
     ·have:=hm e he;rw[h3]at this;simp[Event.mute]at this
    refine qZ C I hw hk hx (h1 w) (y:=⟨1,rk,m,emp⟩) (Aside.refl _ _) hw (fun e he=>.inl (bk_of_mute (hm e he))) (.inr ht) (by rw[hd];exact .quit h2) rfl rfl (fun _=>rfl) (by show 1<8;omega) (by show 1<8;omega) (fun hNk _=>?_) (WS.Ox rfl rfl (mZ _)) (.same (.inl rfl));obtain⟨r,hr⟩:=I.rel k _ hx hNk (by show 1<7;omega);exact⟨r,hr.book (Wg:=Φ.Wg) hd _ _ (fun e he=>bk_of_mute (hm e he)) fun j e he=>.inl (ht e (Array.mem_of_getElem? he))⟩
end
end Go.Eng
namespace Go.Eng
open Go Go.Conc Go.ConcN
open Go.ConcR (KK wgBlock WgAt stA smA rd wr mk g_of_ofEvents Bk DC0 bk_of_mute ofEvent_loc_mark ofEvent_cell ofEvent_mk deafBehind_cons deafBehind_one)
def V(T:List WS):Nat:=T.countP fun x=>decide (5<=x.stage)
def UD(T:List WS):Prop:=∀(k:Nat) (x:WS),T[k]? = some x->x.stage≠2/\x.stage≠3/\x.stage≠4
def c5(n:Nat):Nat:=if 5<=n then 1 else 0
variable {k:Nat}
theorem Zi{T:List WS}{x y:WS}(hx:T[k]? = some x):V (T.set k y)+c5 x.stage=V T+c5 y.stage:=by
 obtain⟨hlt,rfl⟩:=vS.1 hx;unfold V c5;rw[List.countP_set hlt];have hp:5<=T[k].stage->0<T.countP fun x=>decide (5<=x.stage):=fun h=>List.countP_pos_iff.2 ⟨T[k],pQ hlt,by simpa using h⟩
 by_cases h1:5<=T[k].stage <;> by_cases h2:5<=y.stage <;> simp[h1,h2]
 ·have:=hp h1;omega
 ·have:=hp h1;omega
variable {N0 j:Nat}
theorem RJ{T:List WS}(hl:T.length=N0+j)(ho:∀(k:Nat) (x:WS),T[k]? = some x->k<N0->x.stage=1):V T<=j:=by
 unfold V;rw[<-gN N0 T,List.countP_append];have h0:(T.take N0).countP (fun x=>decide (5<=x.stage))=0:=by
  refine fP.2 fun x hx=>?_
  obtain⟨k,hk⟩:=mF hx;have hlt:k<N0:=by
   have:=(vS.1 hk).1;rw[pW]at this;omega
  rw[lO,vP hlt]at hk;simp[ho k x hk hlt]
 have h1:=List.countP_le_length (p:=fun x:WS=>decide (5<=x.stage)) (l:=T.drop N0);rw[pM]at h1;omega
theorem UE{T:List WS}{x:WS}(hx:T[k]? = some x)(h5:5<=x.stage):1<=V T:=
 List.countP_pos_iff.2 ⟨x,mP hx,by simpa using h5⟩
def JM(T:List WS)(pend:Nat)(st sm:Int):Prop:=st=((V T+pend:Nat):Int)*KK/\sm=0/\UD T
theorem JM.fits{T:List WS}{pend n N0 j:Nat}{st sm:Int}(M:JM T pend st sm)(hl:T.length=N0+j)(ho:∀(k:Nat) (x:WS),T[k]? = some x->k<N0->x.stage=1)(hb:j+pend<=n)(hn:n<2147483648){x:WS}(hx:T[k]? = some x):Fits x.stage st sm:=by
 obtain⟨rfl,rfl,hm⟩:=M;have h3:=hm k x hx;refine⟨fun h=>?_,fun h=>by omega,fun h=>by omega⟩;have h1:=UE hx (by omega);have h2:=RJ hl ho;refine⟨V T+pend-1,0,by omega,by omega,?_,rfl⟩;simp only[KK];omega
variable {pend:Nat}{P:Program}
theorem JM.AU{T:List WS}{st sm st' sm':Int}(M:JM T pend st sm){x y:WS}(hx:T[k]? = some x){g g':Goroutine}(H:Turn P g g' x.stage y.stage st sm st' sm'):JM (T.set k y) pend st' sm':=by
 obtain⟨rfl,rfl,hm⟩:=M;have h3:=hm k x hx;have hv:=Zi (y:=y) hx;have nm:y.stage≠2/\y.stage≠3/\y.stage≠4->UD (T.set k y):=fun h i z hz=>by
  rcases yP hz with⟨rfl,rfl⟩ | ⟨_,hz⟩
  ·exact h
  ·exact hm i z hz
 generalize ha:x.stage=a at *;generalize hb:y.stage=b at *;cases H with
 | same h=>
  have:V (T.set k y)=V T:=by
   rcases h with rfl | ⟨h1,h2⟩
   ·omega
   ·simp only[c5,vP h1,vP h2]at hv;omega
  exact⟨by rw[this],rfl,nm (by omega)⟩
 | @add v wt hwt h1 h2 h3'=>
  subst h1;simp only[KK]at h2;have hwt0:wt=0:=by omega
  subst hwt0;rw[vM (by omega)]at h3';subst h3';have hc:V (T.set k y)+1=V T:=by simpa[c5]using hv
  exact⟨by simp only[KK];omega,rfl,nm (by omega)⟩
 | seen h _=>omega
 | nought h _=>omega
 | gone h _ _ _=>omega
inductive Le:List WS->List WS->Prop
 | refl (T:List WS):Le T T
 | step {T' T1 T:List WS}:One WS.lt T' T1->Le T1 T->Le T' T
theorem Le.trans{A B C:List WS}(h:Le A B)(k:Le B C):Le A C:=by
 induction h with
 | refl=>exact k
 | step h1 _ ih=>exact .step h1 (ih k)
def Lv(P:Program)(Good:Machine->Outcome->World->Trace->Prop)(gs:Array Goroutine)(w:World)(sl:Option (Nat×Nat))(t:Trace):Prop:=
 (∃m' ops,runT P (crowd gs w sl) 0=(.next m',ops)/\Runs P Good m' (t++ops)) \/
 (∃o w1 ops,runT P (crowd gs w sl) 0=(.ended o w1,ops)/\∀w2 sl2,Good (crowd gs w2 sl2) o w1 (t++ops))
theorem AU{Good:Machine->Outcome->World->Trace->Prop}{I:List WS->Array Goroutine->World->Trace->Prop}{T0:List WS}
  (hat:∀T gs w t d,I T gs w t->I T gs (w.at d) t)(haw:∀T gs w t,I T gs w t->∀g∈gs,awake g)(hru:∀T gs w t,I T gs w t->∃(i:Nat) (g:Goroutine),gs[i]? = some g/\g.status=.running)
  (hW:∀T gs w t sl k g,I T gs w t->gs[k+1]? = some g->g.status=.running->∃T' gs' w' ops,runT P (crowd gs w sl) (k+1)=(.next (crowd gs' w' sl),ops)/\One WS.lt T' T/\I T' gs' w' (t++ops))
  (hM:∀T gs w t sl g,Le T T0->I T gs w t->gs[0]? = some g->g.status=.running->Lv P Good gs w sl t) :
  ∀T gs w t sl,Le T T0->I T gs w t->Runs P Good (crowd gs w sl) t:=by
 intro T;induction (One.wf WS.wf).apply T with
 | intro T _ ih=>
  intro gs w t sl hle hI;obtain⟨i,g,d,sl',hg,hrun,hstep⟩:=crowd_pick (P:=P) (w:=w) (sl:=sl) (haw _ _ _ _ hI) (hru _ _ _ _ hI);have hI':=hat _ _ _ _ d hI;cases i with
  | zero=>
   rcases hM T gs (w.at d) t sl' g hle hI' hg hrun with⟨m',ops,h1,h2⟩ | ⟨o,w1,ops,h1,h2⟩
   ·exact .step (hstep.trans h1) h2
   ·exact .fin (hstep.trans h1) (h2 w sl)
  | succ k=>
   obtain⟨T',gs',w',ops,h1,h2,h3⟩:=hW T gs (w.at d) t sl' k g hI' hg hrun;exact .step (hstep.trans h1) (ih T' h2 gs' w' (t++ops) sl' (.step h2 hle) h3)
end Go.Eng
namespace Go.Eng
open Go Go.Conc Go.ConcN
open Go.ConcR (KK wgBlock WgAt stA smA rd wr mk g_of_ofEvents Bk DC0 bk_of_mute ofEvent_loc_mark ofEvent_cell ofEvent_mk deafBehind_cons deafBehind_one)
structure Iop(P:Program)(Φ:Ph)(N0 j:Nat)(h:Heap)(w0:World)(M:List WS->Int->Int->Prop)(d0:Nat)(g0:Goroutine)(T:List WS)(gs:Array Goroutine)(w:World)(t:Trace):Prop where
 C:Com w0 Φ.S N0 h T w t
 I:InPh P Φ N0 j h T gs w t
 wg:∃st sm,WgAt Φ.ty Φ.Wg w st sm/\M T st sm
 g0:gs[0]? = some g0
 deaf:Deaf t 0=d0
def BN(N0 j:Nat)(M:List WS->Int->Int->Prop):Prop:=
 ∀(T:List WS) (k:Nat) (x y:WS) (st sm:Int),T.length=N0+j->(∀(k:Nat) (x:WS),T[k]? = some x->1<=x.stage)->(∀(k:Nat) (x:WS),T[k]? = some x->k<N0->x.stage=1)->T[k]? = some x->M T st sm ->
  Fits x.stage st sm/\∀(P:Program) (g g':Goroutine) (st' sm':Int),Turn P g g' x.stage y.stage st sm st' sm'->M (T.set k y) st' sm'
def ja(P:Program)(gs:Array Goroutine)(g g':Goroutine)(w':World):Array Goroutine:=(gs.map (woken P g g' w')).setIfInBounds 0 g'
section
variable {P:Program}{Φ:Ph}{N0 j:Nat}{h h' : Heap}{T:List WS}{gs:Array Goroutine}{w0 w w' : World}{t:Trace}{es:Array Event}{sl:Option (Nat × Nat)}{st sm:Int}{M M' : List WS -> Int -> Int -> Prop}{d0:Nat}{g0 g1:Goroutine}
  {Good:Machine -> Outcome -> World -> Trace -> Prop}
theorem DS(h0:gs[0]? = some g0)(hs:stepG P true g0 w=.go g1 w' es):runT P (crowd gs w sl) 0=(.next (crowd (ja P gs g0 g1 w') w' sl),MemOp.ofEvents 0 g0.frame.fn g0.frame.place es):=runT_crowd_go h0 hs
theorem Du(h0:gs[0]? = some g0):(ja P gs g0 g1 w')[0]? = some g1:=get_map_set_same _ _ _ (uS.1 h0).1
theorem Dv{i:Nat}{o:Goroutine}(hi:gs[i+1]? = some o)(ho:o.status=.running\/o.status=.finished):(ja P gs g0 g1 w')[i+1]? = some o:=by
 unfold ja;rw[get_map_set _ _ _ _ (by omega),hi,pK,Cx ho]
theorem Iop.J(X:Iop P Φ N0 j h w0 M d0 g0 T gs w t):Φ.J w:=let⟨_,_,h,_⟩:=X.wg;X.I.J h
theorem Iop.at(X:Iop P Φ N0 j h w0 M d0 g0 T gs w t)(d:Nat):Iop P Φ N0 j h w0 M d0 g0 T gs (w.at d) t:=⟨X.C.at d,X.I.at d,X.wg,X.g0,X.deaf⟩
theorem Pp(I:InPh P Φ N0 j h T gs w t)(hJ:Φ.J w)(h0:gs[0]? = some g0)(hg:g0.status=.running\/g0.status=.finished\/g0.status=.blocked):∀g∈gs,awake g:=by
 intro g hg2 tm;obtain⟨i,hi⟩:=Array.mem_iff_getElem?.1 hg2;cases i with
 | zero=>
  rw[h0]at hi;cases hi
  rcases hg with h | h | h <;> rw[h] <;> simp
 | succ i=>
  have hlt:i<T.length:=by
   have:=(uS.1 hi).1;rw[I.gsz]at this;omega
  obtain⟨g',hg',hs⟩:=I.sit i _ (vQ hlt);rw[hi]at hg';cases hg'
  rcases hs.status hJ with h | ⟨h,_⟩ <;> rw[h] <;> simp
theorem Iop.worker(X:Iop P Φ N0 j h w0 M d0 g0 T gs w t)(hn:BN N0 j M)(hr:g0.status=.running){k:Nat}{g:Goroutine}(hk:gs[k+1]? = some g)(hrun:g.status=.running) :
  ∃T' gs' w' ops,runT P (crowd gs w sl) (k+1)=(.next (crowd gs' w' sl),ops)/\One WS.lt T' T/\Iop P Φ N0 j h w0 M d0 g0 T' gs' w' (t++ops):=by
 obtain⟨st,sm,hw,hM⟩:=X.wg;have hlt:k<T.length:=by
  have:=(uS.1 hk).1;rw[X.I.gsz]at this;omega
 have hx:=vQ hlt;have hst:∀(k:Nat) (x:WS),T[k]? = some x->1<=x.stage:=fun k x hx=>by
  obtain⟨g,_,hs⟩:=X.I.sit k x hx;generalize Deaf t (k+1)=d at hs;cases hs <;> simp
 obtain⟨g',w',es,y,st',sm',h1,h2,h3,h4,h5,h6⟩:=Zh X.C X.I hw hk hx hrun (hn T k _ ⟨0,.leaf,0,emp⟩ st sm X.I.len hst X.I.old hx hM).1;refine⟨_,_,w',_,RG hk h1,One.set hx h2,h3,h4,⟨st',sm',h5,(hn T k _ y st sm X.I.len hst X.I.old hx hM).2 _ _ _ _ _ h6⟩,?_,?_⟩
 ·rw[EJ X.g0,Cx (.inl hr)]
 ·rw[Deaf_other t (by omega) _ g_of_ofEvents];exact X.deaf
theorem InPh.first(I:InPh P Φ N0 j h T gs w t)(hJ:Φ.J w)(h0:gs[0]? = some g0)(fn:FuncId)(pos:String)(hes:∀e∈es,∀b,(MemAct.ofEvent e).touch? = some b->∃ad,b.loc=.cell ad/\(ad.block=Φ.Wg->b.kind ≠ .plain)/\ad.block≠Φ.C)
  (hlt:w.heap.size<=w'.heap.size)(hC:w'.heap[Φ.C]? = w.heap[Φ.C]?)(hno:h' Φ.Wg=none/\h' Φ.C=none):InPh P Φ N0 j h' T (ja P gs g0 g1 w') w' (t++MemOp.ofEvents 0 fn pos es):=by
 have hg:∀op∈MemOp.ofEvents 0 fn pos es,op.g=0:=g_of_ofEvents;have own:∀ {i:Nat} {op:MemOp},op∈MemOp.ofEvents 0 fn pos es->(t++MemOp.ofEvents 0 fn pos es)[i]? = some op->(t++MemOp.ofEvents 0 fn pos es).g? i=some 0:=fun h1 h2=>by simp[Trace.g?,h2,hg _ h1]
 have evt:∀ {op:MemOp} {b:Touch},op∈MemOp.ofEvents 0 fn pos es->op.act.touch? = some b->∃ad,b.loc=.cell ad/\(ad.block=Φ.Wg->b.kind ≠ .plain)/\ad.block≠Φ.C:=fun hop hb=>by
  obtain⟨e,he,rfl⟩:=yS hop;exact hes e he _ hb
 refine⟨I.len,I.jn,by rw[<-I.gsz];simp[ja],?_,I.old,I.CW,hno,I.xno,⟨by have:=I.lt;omega,by have:=I.lt;omega⟩,?_,?_,?_,?_,?_,?_,?_⟩
 ·intro i z hz;obtain⟨o,ho,hs⟩:=I.sit i z hz;exact⟨o,Dv ho ((hs.status hJ).imp id fun h=>h.1),by rw[Deaf_other t (by omega) _ hg];exact hs⟩
 ·obtain⟨cs,hc1,hc2⟩:=I.pay;exact⟨cs,hC.trans hc1,hc2⟩
 ·intro i a ad ha hl hb;rcases yD ha with⟨hlt,h1⟩ | ⟨op,h1,h2,h3⟩
  ·rcases I.quiet i a ad h1 hl hb with⟨h4,h5⟩ | h4
   ·exact .inl ⟨h4,fun h=>by rw[g?_old hlt];exact h5 h⟩
   ·exact .inr fun k hk=>j6 (h4 k hk)
  ·obtain⟨ad2,e1,e2,_⟩:=evt h1 h2;rw[hl]at e1;cases e1
   exact .inl ⟨e2 hb,fun _=>own h1 h3⟩
 ·intro off i a ho ha hl;rcases yD ha with⟨hlt,h1⟩ | ⟨op,h1,h2,h3⟩
  ·exact j6 (I.cellF off i a ho h1 hl)
  ·have:=knows_own h3;rwa[hg op h1]at this
 ·intro i z hz hz8 q a ha hl;rcases yD ha with⟨hlt,h1⟩ | ⟨op,h1,h2,h3⟩
  ·exact j6 (I.cellW i z hz hz8 q a h1 hl)
  ·obtain⟨ad2,e1,_,e2⟩:=evt h1 h2;rw[hl]at e1;cases e1
   exact absurd rfl e2
 ·intro i a ad ha hl hb;rcases yD ha with⟨hlt,h1⟩ | ⟨op,h1,h2,h3⟩
  ·rcases I.cC i a ad h1 hl hb with h4 | ⟨h4,q,h5,h6⟩
   ·exact .inl (j6 h4)
   ·exact .inr ⟨h4,q,h5,by rw[g?_old hlt];exact h6⟩
  ·have:=knows_own h3;rw[hg op h1]at this;exact .inl this
 ·intro i z hz hi hs;rw[Po hC];exact I.vals i z hz hi hs
 ·intro i z hz hi hs;obtain⟨r,hr⟩:=I.rel i z hz hi hs;exact⟨r,hr.appOther hg (by omega)⟩
theorem Iop.book(X:Iop P Φ N0 j h w0 M d0 g0 T gs w t)(hA:Aside Φ.Wg w w')(hw':WgAt Φ.ty Φ.Wg w' st sm)(hM:M' T st sm)
  (hes:∀e∈es,Bk Φ.Wg e\/e=Go.ConcR.mk (.read (smA Φ.Wg))\/e=Go.ConcR.mk (.write (smA Φ.Wg))\/e=Go.ConcR.mk (.acquire (stA Φ.Wg)))(fn:FuncId)(pos:String) :
  Iop P Φ N0 j h w0 M' (deafBehind d0 es) g1 T (ja P gs g0 g1 w') w' (t++MemOp.ofEvents 0 fn pos es):=by
 have tch:∀e∈es,∀b,(MemAct.ofEvent e).touch? = some b->∃ad,b.loc=.cell ad/\ad.block=Φ.Wg/\b.kind ≠ .plain:=by
  intro e he b hb;rcases hes e he with h1 | rfl | rfl | rfl
  ·rcases h1 with h1 | h1 | ⟨a,q,rfl,ha⟩
   ·rw[ofEvent_loc_mark h1]at hb;cases hb
   ·rw[ofEvent_loc_mark h1]at hb;cases hb
   ·rw[ofEvent_cell]at hb;simp only[MemAct.touch?,uZ]at hb;subst hb;exact⟨a,rfl,ha,by simp⟩
  ·simp only[ofEvent_mk,MemAct.touch?,uZ]at hb;subst hb;exact⟨_,rfl,rfl,by simp⟩
  ·simp only[ofEvent_mk,MemAct.touch?,uZ]at hb;subst hb;exact⟨_,rfl,rfl,by simp⟩
  ·cases hb
 have said_of:∀(x:Touch.Kind),x ≠ .plain->x=.atomic\/x=.said:=fun x hx=>by cases x <;> simp_all
 refine⟨?_,X.I.first X.J X.g0 fn pos (fun e he b hb=>?_) (by rw[hA.size];exact uN _) (hA.block _ X.I.CW) X.I.hno,⟨st,sm,hw',hM⟩,Du X.g0,by rw[Deaf_own,X.deaf]⟩
 ·refine X.C.other (g:=0) (lE _) g_of_ofEvents rfl (fun i y hy=>⟨y,hy,fun b _=>rfl⟩) ⟨hA.os,hA.tape,hA.output⟩ hA.size (fun b hb=>?_) (fun op hop b hb=>?_) (fun op hop a hr=>?_) (.inl rfl)
  ·refine hA.block b fun e=>?_
   subst e;rcases hb with hb | ⟨i,z,hz,hb⟩
   ·exact hb X.I.hno.1
   ·exact hb (X.I.xno i z hz).1
  ·obtain⟨e,he,rfl⟩:=yS hop;obtain⟨ad,h1,h2,h3⟩:=tch e he b hb;refine⟨ad,h1,by rw[h2];exact X.I.lt.1,by rw[h2];exact X.I.hno.1,fun i z hz=>by rw[h2];exact(X.I.xno i z hz).1,fun said i a ha hc=>?_⟩;rcases X.I.quiet i a ad ha (hc.1.trans h1) h2 with⟨h4,h5⟩ | h4
   ·rcases hc.2.2.2 with h6 | h6 | ⟨_,h6,_⟩
    ·exact absurd h6 h4
    ·exact absurd h6 h3
    ·obtain⟨op,ho,_⟩:=touch_of ha;have:=knows_own ho;have e0:=h5 h6;simp only[Trace.g?,ho,pK,uZ]at e0;rwa[e0]at this
   ·exact h4 0 (.inl rfl)
  ·obtain⟨e,he,rfl⟩:=yS hop;simp only at hr;rcases hes e he with h1 | rfl | rfl | rfl
   ·rcases h1 with h1 | h1 | ⟨a,q,rfl,ha⟩
    ·rw[ofEvent_loc_mark h1]at hr;cases hr
    ·rw[ofEvent_loc_mark h1]at hr;cases hr
    ·rw[ofEvent_cell]at hr;cases hr
   ·cases hr
   ·cases hr
   ·cases hr
 ·obtain⟨ad,h1,h2,h3⟩:=tch e he b hb;exact⟨ad,h1,fun _=>h3,fun e=>X.I.CW (e.symm.trans h2)⟩
theorem Iop.yx(X:Iop P Φ N0 j h w0 M d0 g0 T gs w t)(fn:FuncId)(pos:String):Iop P Φ N0 j h w0 M d0 g1 T (ja P gs g0 g1 w) w (t++MemOp.ofEvents 0 fn pos #[]):=by
 obtain⟨st,sm,hw,hM⟩:=X.wg;exact X.book (es:=#[]) (Aside.refl _ _) hw hM (fun e he=>by simp at he) fn pos
theorem Iop.UF(X:Iop P Φ N0 j h w0 M d0 g0 T gs w t)(K:Kept Φ.S h h' w w')(hes:∀e∈es,AO Φ.S h w w' e)(fn:FuncId)(pos:String) :
  Iop P Φ N0 j h' w0 M d0 g1 T (ja P gs g0 g1 w') w' (t++MemOp.ofEvents 0 fn pos es):=by
 obtain⟨st,sm,hw,hM⟩:=X.wg;have hW:=K.old Φ.Wg X.I.lt.1 X.I.hno.1;have hC:=K.old Φ.C X.I.lt.2 X.I.hno.2;refine⟨X.C.main K hes fn pos,X.I.first X.J X.g0 fn pos (fun e he b hb=>?_) K.size hC.1 ⟨hW.2,hC.2⟩,⟨st,sm,hW.1.trans hw,hM⟩,Du X.g0,?_⟩
 ·have hop:({ g:=0,fn:=0,pos := "",act:=.ofEvent e }:MemOp)∈MemOp.ofEvents 0 0 "" #[e]:=by simp[MemOp.ofEvents]
  obtain⟨ad,h1,h2,h3,_,_⟩:=jV (S:=Φ.S) (h:=h) (w:=w) (w':=w') (es:=#[e]) (fun e' he'=>by simp at he';rw[he'];exact hes e he) hop hb;refine⟨ad,h1,fun e1=>?_,fun e1=>?_⟩
  ·rw[e1]at h3;rcases h3 with h3 | h3
   ·exact absurd X.I.hno.1 h3
   ·have:=X.I.lt.1;omega
  ·rw[e1]at h3;rcases h3 with h3 | h3
   ·exact absurd X.I.hno.2 h3
   ·have:=X.I.lt.2;omega
 ·rw[Deaf_own,X.deaf];refine deafBehind_idle (fun e he=>?_) _;rcases hes e he with⟨a,h1,_⟩ | ⟨m,hm,rfl⟩
  ·rw[h1];exact⟨by simp,by simp⟩
  ·cases m <;> simp[Quiet]at hm ⊢
theorem Iop.AU(hn:BN N0 j M)(hr:g0.status=.running)
  (hM:∀T' gs w t sl,Le T' T->Iop P Φ N0 j h w0 M d0 g0 T' gs w t->Lv P Good gs w sl t)(X:Iop P Φ N0 j h w0 M d0 g0 T gs w t)(sl:Option (Nat×Nat)):Runs P Good (crowd gs w sl) t:=
 Eng.AU (I:=fun T gs w t=>Iop P Φ N0 j h w0 M d0 g0 T gs w t) (T0:=T) (fun T gs w t d X=>X.at d) (fun T gs w t X=>Pp X.I X.J X.g0 (.inl hr)) (fun T gs w t X=>⟨0,g0,X.g0,hr⟩)
  (fun T gs w t sl k g X hk hg=>X.worker hn hr hk hg) (fun T' gs w t sl g hle X _ _=>hM T' gs w t sl hle X) T gs w t sl (.refl T) X
theorem Iop.sil(hn:BN N0 j M){Stop:Goroutine->World->Prop}:∀(m:Nat) (g0:Goroutine) (T:List WS) (gs:Array Goroutine) (w:World) (t:Trace) (sl:Option (Nat×Nat)),Sil P true Φ.J Stop m g0->Iop P Φ N0 j h w0 M d0 g0 T gs w t ->
  (∀g' T' gs' w' t' sl',Le T' T->(∀w,Φ.J w->Stop g' w)->Iop P Φ N0 j h w0 M d0 g' T' gs' w' t'->Runs P Good (crowd gs' w' sl') t')->Runs P Good (crowd gs w sl) t:=by
 intro m;induction m with
 | zero=>
  intro g0 T gs w t sl H X K;rcases H.cases with h | ⟨k,h,_⟩
  ·exact K g0 T gs w t sl (.refl T) h X
  ·omega
 | succ m ih=>
  intro g0 T gs w t sl H X K;rcases H.cases with h | ⟨k,h,hr,hst⟩
  ·exact K g0 T gs w t sl (.refl T) h X
  ·obtain rfl:k=m:=by omega
   refine X.AU hn hr (fun T' gs w t sl hle X=>?_) sl;obtain⟨g',h1,h2⟩:=hst w X.J;exact .inl ⟨_,_,DS X.g0 h1,ih g' T' _ w _ sl h2 (X.yx _ _) fun g2 T2 gs2 w2 t2 sl2 hl=>K g2 T2 gs2 w2 t2 sl2 (hl.trans hle)⟩
theorem Iop.safe(hS:∀fr cs h Q,¬Φ.S.big fr cs h Q)(hn:BN N0 j M){Post:Frame->List Frame->Heap->Prop}{fr:Frame}{cs:List Frame}(H:Safe P Φ.S Post fr cs h):∀(T:List WS) (gs:Array Goroutine) (w:World) (t:Trace) (sl:Option (Nat×Nat)),
  Iop P Φ N0 j h w0 M d0 (gor fr cs) T gs w t ->
  (∀fr' cs' h' T' gs' w' t' sl',Post fr' cs' h'->(∀b,Φ.S b->h' b=h b)->Iop P Φ N0 j h' w0 M d0 (gor fr' cs') T' gs' w' t'->Runs P Good (crowd gs' w' sl') t')->Runs P Good (crowd gs w sl) t:=by
 induction H with
 | done p=>exact fun T gs w t sl X K=>K _ _ _ T gs w t sl p (fun _ _=>rfl) X
 | step fr' cs' w' es h' hs _ ih=>
  intro T gs w t sl X K;refine X.AU hn rfl (fun T' gs w t sl _ X=>?_) sl;obtain⟨h1,h2,h3⟩:=hs w true X.C.has;exact .inl ⟨_,_,DS X.g0 h1,ih w true X.C.has T' _ _ _ sl (X.UF h2 h3 _ _) fun fr2 cs2 h2' T2 gs2 w2 t2 sl2 p hro=>K fr2 cs2 h2' T2 gs2 w2 t2 sl2 p fun b hb=>(hro b hb).trans (h2.ro b hb)⟩
 | big h0 f Q e ha hb _ _=>exact absurd hb (hS _ _ _ _)
end
end Go.Eng
namespace Go.Eng
open Go Go.Conc Go.ConcN
open Go.ConcR (KK wgBlock WgAt stA smA rd wr mk g_of_ofEvents Bk DC0 bk_of_mute ofEvent_loc_mark ofEvent_cell ofEvent_mk deafBehind_cons deafBehind_one)
variable {S:Shared}{k n:Nat}
section
variable {P:Program}{Φ:Ph}{N0 j:Nat}{h h' h1 hc:Heap}{T:List WS}{gs:Array Goroutine}{w0 w w' : World}{t:Trace}{es:Array Event}{sl:Option (Nat × Nat)}{st sm:Int}{M M' : List WS -> Int -> Int -> Prop}{d0:Nat}{g0 g1:Goroutine}
  {Good:Machine -> Outcome -> World -> Trace -> Prop}
theorem kg{z y:WS}{i:Nat}(hi:(T++[z])[i]? = some y):T[i]? = some y\/(i=T.length/\y=z):=by
 rcases mK i T.length with hlt | hge
 ·rw[uC hlt]at hi;exact .inl hi
 ·rw[uM hge]at hi;cases e:i-T.length with
  | zero=>rw[e]at hi;simp at hi;exact .inr ⟨by omega,hi.symm⟩
  | succ n=>rw[e]at hi;simp at hi
theorem Com.JN(C:Com w0 S N0 h T w t):Deaf t (T.length+1)=0:=Deaf_absent fun i op hi e=>by have:=C.gsb i op hi;omega
theorem Ji{x y:MemOp}(hx:x.g=0/\x.act=.go k)(hy:y.g=k/\y.act=.start):∀op∈(#[x,y]:Array MemOp),op.act.touch? = none/\(∀m,op.act ≠ .mark m)/\(op.g=0\/op.g=k):=by
 intro op hop;simp only[nP,uU,pB,nA]at hop;rcases hop with rfl | rfl
 ·rw[hx.2];exact⟨rfl,fun m=>by simp,.inl hx.1⟩
 ·rw[hy.2];exact⟨rfl,fun m=>by simp,.inr hy.1⟩
theorem Com.spawn(C:Com w0 S N0 h T w t)(hN:N0<=T.length)(s1:Sub h1 h)(sc:Sub hc h)(hap:∀b,¬S b->hc b≠none->h1 b=none)(hS:∀b,S b->h1 b=h b){x y:MemOp}(hx:x.g=0/\x.act=.go (T.length+1))(hy:y.g=T.length+1/\y.act=.start)
  (h0:Deaf t 0=0){z:WS}(hz:z.heap=hc):Com w0 S N0 h1 (T++[z]) w (t++#[x,y]):=by
 have tw:=Ji hx hy;have oldt:∀ {i:Nat} {a:Touch},touchAt (t++#[x,y]) i=some a->i<t.size/\touchAt t i=some a:=fun ha=>by
  rcases yD ha with h | ⟨op,h1,h2,_⟩
  ·exact h
  ·rw[(tw op h1).1]at h2;cases h2
 have hn1:∀ {b:Nat},h b=none->h1 b=none:=fun hb=>by
  cases e:h1 _ with
  | none=>rfl
  | some o=>rw[s1 _ o e]at hb;cases hb
 have hnc:∀ {b:Nat},h b=none->hc b=none:=fun hb=>by
  cases e:hc _ with
  | none=>rfl
  | some o=>rw[sc _ o e]at hb;cases hb
 refine⟨C.env,C.has.sub s1,fun b hb hn=>C.inv b hb (by rw[<-hS b hb];exact hn),?_,?_,?_,?_,?_,?_,?_,?_,?_,?_⟩
 ·intro i u hu;rcases kg hu with hu | ⟨_,rfl⟩
  ·exact C.hasW i u hu
  ·rw[hz];exact C.has.sub sc
 ·intro i u hu b hb hn;rcases kg hu with hu | ⟨_,rfl⟩
  ·exact hn1 (C.apart i u hu b hb hn)
  ·rw[hz]at hn;exact hap b hb hn
 ·intro i q u v hu hv hne b hb hn;rcases kg hu with hu' | ⟨rfl,rfl⟩
  ·rcases kg hv with hv | ⟨_,rfl⟩
   ·exact C.apart2 i q u v hu' hv hne b hb hn
   ·rw[hz];exact hnc (C.apart i u hu' b hb hn)
  ·rcases kg hv with hv | ⟨rfl,_⟩
   ·cases e:v.heap b with
    | none=>rfl
    | some o=>
     rw[hz]at hn;exact absurd (hnc (C.apart q v hv b hb (by rw[e];simp))) hn
   ·exact absurd rfl hne
 ·intro said;have e:t++#[x,y]=(t++#[x])++#[y]:=by apply Array.ext';simp
  rw[e];refine noRace_append (g:=T.length+1) (noRace_append (g:=0) (C.nr said) (fun op hop=>by simp at hop;rw[hop];exact hx.1) (fun i a _ op hop b hb _=>?_)) (fun op hop=>by simp at hop;rw[hop];exact hy.1) (fun i a _ op hop b hb _=>?_)
  ·rw[(tw op (by simp at hop ⊢;exact .inl hop)).1]at hb;cases hb
  ·rw[(tw op (by simp at hop ⊢;exact .inr hop)).1]at hb;cases hb
 ·refine JK (fun i op hi=>?_) (fun op hop=>?_)
  ·rw[vR];have:=C.gsb i op hi;omega
  ·rw[vR];rcases(tw op hop).2.2 with e | e <;> rw[e] <;> simp
 ·intro i a ha;obtain⟨_,h⟩:=oldt ha;exact C.lo i a h
 ·exact Fp C.norel fun op hop a=>(tw op hop).2.1 _
 ·intro i a ad ha hl hb;obtain⟨hlt,h2⟩:=oldt ha;rcases C.kn i a ad h2 hl (fun e=>hb (hn1 e))with h4 | ⟨h4,h5,h6,q,h7,h8⟩
  ·exact .inl (j6 h4)
  ·exact .inr ⟨h4,h5,h6,q,h7,by rw[g?_old hlt];exact h8⟩
 ·intro k u hu i a ad ha hl hb hcc;obtain⟨hlt,h2⟩:=oldt ha;rcases kg hu with hu | ⟨rfl,rfl⟩
  ·exact j6 (C.knW k u hu i a ad h2 hl hb hcc)
  ·rw[hz]at hb;rcases C.kn i a ad h2 hl (fun e=>hb (hnc e))with h4 | ⟨h4,h5,_⟩
   ·exact fork_knows hx hy h0 C.JN h4
   ·rcases hcc with hcc | hcc
    ·exact absurd h4 hcc
    ·rw[h5]at hcc;cases hcc
 ·exact Na C.ho fun op hop=>.inr (.inr (tw op hop).1)
theorem InPh.spawn(I:InPh P Φ N0 j h T gs w t)(C:Com w0 Φ.S N0 h T w t)(s1:Sub h1 h)(sc:Sub hc h)(hj:j<Φ.n)(h0:gs[0]? = some g0){x y:MemOp}(hx:x.g=0/\x.act=.go (T.length+1))(hy:y.g=T.length+1/\y.act=.start)(hd:Deaf t 0=0)
  {fr:Frame}{cs:List Frame}{rk:Rk}(hR:Ou P Φ.S false Φ.J (JL P Φ j) rk fr cs hc) :
  InPh P Φ N0 (j+1) h1 (T++[⟨8,rk,0,hc⟩]) ((gs.setIfInBounds 0 g1).push (gor fr cs)) w (t++#[x,y]):=by
 have tw:=Ji hx hy;have hl:=I.len;have oldt:∀ {i:Nat} {a:Touch},touchAt (t++#[x,y]) i=some a->i<t.size/\touchAt t i=some a:=fun ha=>by
  rcases yD ha with h | ⟨op,h1,h2,_⟩
  ·exact h
  ·rw[(tw op h1).1]at h2;cases h2
 have still:∀g,Deaf (t++#[x,y]) g=Deaf t g:=fun g=>Deaf_still t g _ fun op hop=>⟨(tw op hop).2.1 _,(tw op hop).2.1 _⟩
 have hn1:∀ {b:Nat},h b=none->h1 b=none:=fun hb=>by
  cases e:h1 _ with
  | none=>rfl
  | some o=>rw[s1 _ o e]at hb;cases hb
 have hnc:∀ {b:Nat},h b=none->hc b=none:=fun hb=>by
  cases e:hc _ with
  | none=>rfl
  | some o=>rw[sc _ o e]at hb;cases hb
 have hgz:gs.size=T.length+1:=I.gsz;refine⟨by simp[hl];omega,by omega,by simp[hgz],?_,?_,I.CW,⟨hn1 I.hno.1,hn1 I.hno.2⟩,?_,I.lt,I.pay,?_,?_,?_,?_,?_,?_⟩
 ·intro k u hu;rcases kg hu with hu | ⟨rfl,rfl⟩
  ·obtain⟨o,ho,hs⟩:=I.sit k u hu;refine⟨o,?_,by rw[still];exact hs⟩;have hlt:=(uS.1 ho).1;rw[gX,vM (by rw[lU];omega),nD (by omega)];exact ho
  ·refine⟨gor fr cs,?_,?_⟩
   ·rw[gX,vP (by rw[lU];omega)]
   ·rw[still,C.JN,show T.length-N0=j by omega];exact .put hR
 ·intro k u hu hk;rcases kg hu with hu | ⟨rfl,_⟩
  ·exact I.old k u hu hk
  ·omega
 ·intro k u hu;rcases kg hu with hu | ⟨_,rfl⟩
  ·exact I.xno k u hu
  ·exact⟨hnc I.hno.1,hnc I.hno.2⟩
 ·intro i a ad ha hl2 hb;obtain⟨hlt,h2⟩:=oldt ha;rcases I.quiet i a ad h2 hl2 hb with⟨h3,h4⟩ | h3
  ·exact .inl ⟨h3,fun e=>by rw[g?_old hlt];exact h4 e⟩
  ·refine .inr fun k hk=>?_
   by_cases e:k=T.length+1
   ·subst e;exact fork_knows hx hy hd C.JN (h3 0 (.inl rfl))
   ·exact j6 (h3 k (by omega))
 ·intro off i a ho ha hl2;obtain⟨_,h2⟩:=oldt ha;exact j6 (I.cellF off i a (by omega) h2 hl2)
 ·intro k u hu h8 i a ha hl2;obtain⟨_,h2⟩:=oldt ha;rcases kg hu with hu | ⟨rfl,rfl⟩
  ·exact j6 (I.cellW k u hu h8 i a h2 hl2)
  ·exact fork_knows hx hy hd C.JN (I.cellF (T.length-N0) i a (by omega) h2 hl2)
 ·intro i a ad ha hl2 hb;obtain⟨hlt,h2⟩:=oldt ha;rcases I.cC i a ad h2 hl2 hb with h3 | ⟨h3,q,h4,h5⟩
  ·exact .inl (j6 h3)
  ·exact .inr ⟨h3,q,h4,by rw[g?_old hlt];exact h5⟩
 ·intro k u hu hk hs;rcases kg hu with hu | ⟨_,rfl⟩
  ·exact I.vals k u hu hk hs
  ·simp at hs
 ·intro k u hu hk hs;rcases kg hu with hu | ⟨_,rfl⟩
  ·obtain⟨r,hr⟩:=I.rel k u hu hk hs;have hku:=(vS.1 hu).1;refine⟨r,hr.appNot fun op hop=>?_⟩;rcases(tw op hop).2.2 with e | e <;> omega
  ·simp at hs
def MO(q:Prop)(pend:Nat)(T:List WS)(st sm:Int):Prop:=JM T pend st sm/\(q->∀(k:Nat) (x:WS),T[k]? = some x->x.stage=1)
theorem MO.shut{q:Prop}{pend n:Nat}(hb:j+pend<=n)(hn:n<2147483648):BN N0 j (MO q pend):=by
 intro T k x y st sm hl hs ho hx ⟨H,hq⟩;refine⟨H.fits hl ho hb hn hx,fun P g g' st' sm' ht=>⟨H.AU hx ht,fun hqq i z hz=>?_⟩⟩;rcases yP hz with⟨rfl,rfl⟩ | ⟨_,hz⟩
 ·have h1:=hq hqq _ _ hx;have h2:=(H.AU hx ht).2.2;cases ht with
  | same h=>omega
  | add _ h _ _=>omega
  | seen h _=>omega
  | nought h _=>omega
  | gone h _ _ _=>omega
 ·exact hq hqq i z hz
def R1(T:List WS)(st sm:Int):Prop:=st=((V T:Nat):Int)*KK+1/\sm=0/\1<=V T/\UD T
def R2(T:List WS)(st sm:Int):Prop:=∃(L:Nat) (x:WS),T[L]? = some x/\(x.stage=2\/x.stage=3\/x.stage=4)/\(∀(k:Nat) (y:WS),T[k]? = some y->k≠L->y.stage=1)/\st=(if x.stage=2 then 0 else 1)/\sm=0
def R3(T:List WS)(st sm:Int):Prop:=(∀(k:Nat) (x:WS),T[k]? = some x->x.stage=1)/\st=0/\sm=1
def MR(T:List WS)(st sm:Int):Prop:=R1 T st sm\/R2 T st sm\/R3 T st sm
theorem Nf(hjn:j<=n)(hn:n<2147483648){x y:WS}(hl:T.length=N0+j)(hs:∀(k:Nat) (x:WS),T[k]? = some x->1<=x.stage)(ho:∀(k:Nat) (x:WS),T[k]? = some x->k<N0->x.stage=1)(hx:T[k]? = some x)
  (H:R1 T st sm\/R2 T st sm):Fits x.stage st sm/\∀(P:Program) (g g':Goroutine) (st' sm':Int),Turn P g g' x.stage y.stage st sm st' sm' ->
   (R1 (T.set k y) st' sm'\/R2 (T.set k y) st' sm')\/(R3 (T.set k y) st' sm'/\mayWake P g=true/\g'.status ≠ .blocked/\g'.status ≠ .waiting):=by
 have setAll:∀ {Pr:WS->Prop},Pr y->(∀(i:Nat) (z:WS),i≠k->T[i]? = some z->Pr z)->∀(i:Nat) (z:WS),(T.set k y)[i]? = some z->Pr z:=fun hy h i z hz=>by
  rcases yP hz with⟨rfl,rfl⟩ | ⟨hne,hz⟩
  ·exact hy
  ·exact h i z (uW hne) hz
 have hv:=Zi (y:=y) hx;have hVj:=RJ hl ho;have hkl:k<T.length:=(vS.1 hx).1;rcases H with⟨rfl,rfl,hV,hm⟩ | ⟨L,xl,hL,h234,hoth,rfl,rfl⟩
 ·have h3:=hm k x hx;refine⟨⟨fun h=>⟨V T-1,1,by omega,by omega,by simp only[KK];omega,rfl⟩,fun h=>by omega,fun h=>by omega⟩,fun P g g' st' sm' ht=>?_⟩;generalize ha:x.stage=a at *;generalize hb:y.stage=b at *;cases ht with
  | same h=>
   have e:V (T.set k y)=V T:=by
    rcases h with rfl | ⟨h1,h2⟩
    ·omega
    ·simp only[c5,vP h1,vP h2]at hv;omega
   exact .inl (.inl ⟨by rw[e],rfl,by omega,setAll (by omega) fun i z _ hz=>hm i z hz⟩)
  | @add v wt hwt h1 h2 h3'=>
   subst h1;simp only[KK]at h2;have hw1:wt=1:=by omega
   subst hw1;have hc:∀b',b=b'->b'<5->V (T.set k y)+1=V T:=fun b' e hlt=>by
    subst e;simp only[c5,vP (show 5<=5 by omega),vM (show ¬5<=b by omega)]at hv;omega
   by_cases hv0:v=0
   ·subst hv0;rw[vP ⟨rfl,rfl⟩]at h3';have hc':=hc 4 h3' (by omega);refine .inl (.inr ⟨k,y,nC hkl,.inr (.inr (by omega)),fun i z hz hik=>?_,by rw[vM (by omega)];simp[KK],rfl⟩);rcases yP hz with⟨rfl,_⟩ | ⟨_,hz⟩
    ·exact absurd rfl hik
    ·have hz1:=hs i z hz;have hz2:=hm i z hz;have hlt5:¬5<=z.stage:=fun h5=>by
      have:(T.set k y)[i]? = some z:=by rw[lS (uW hik)];exact hz
      have:=UE this h5;omega
     omega
   ·rw[vM (fun h=>hv0 h.1)]at h3';have hc':=hc 1 h3' (by omega);exact .inl (.inl ⟨by simp only[KK];omega,rfl,by omega,setAll (by omega) fun i z _ hz=>hm i z hz⟩)
  | seen h _=>omega
  | nought h _=>omega
  | gone h _ _ _=>omega
 ·by_cases hk:k=L
  ·subst hk;rw[hx]at hL;cases hL
   refine⟨⟨fun h=>by omega,fun h=>⟨by rw[vM (by omega)],rfl⟩,fun h=>⟨by rw[vP h],rfl⟩⟩,fun P g g' st' sm' ht=>?_⟩;have mid:y.stage=2\/y.stage=3\/y.stage=4->∀s,s=(if y.stage=2 then(0:Int)else 1)->R2 (T.set k y) s 0:=fun h s hs2=>⟨k,y,nC hkl,h,fun i z hz hik=>by
    rcases yP hz with⟨rfl,_⟩ | ⟨_,hz⟩
    ·exact absurd rfl hik
    ·exact hoth i z hz hik,hs2,rfl⟩
   generalize ha:x.stage=a at *;generalize hb:y.stage=b at *;cases ht with
   | same h=>
    have e:b=a:=by omega
    subst e;exact .inl (.inr (by have:=mid (by omega) _ rfl;simpa using this))
   | add _ h _ _=>omega
   | seen h1 h2=>subst h1 h2;exact .inl (.inr (mid (by omega) _ rfl))
   | nought h1 h2=>subst h1 h2;exact .inl (.inr (mid (by omega) _ rfl))
   | gone h1 h2 h3 h4=>
    subst h1 h2;exact .inr ⟨⟨setAll hb fun i z hik hz=>hoth i z hz hik,rfl,rfl⟩,h3,h4⟩
  ·have h1:=hoth k x hx hk;refine⟨⟨fun h=>by omega,fun h=>by omega,fun h=>by omega⟩,fun P g g' st' sm' ht=>?_⟩;have hb1:y.stage=1/\st'=(if xl.stage=2 then(0:Int)else 1)/\sm'=0:=by
    generalize y.stage=b at *;generalize x.stage=a at *;generalize (if xl.stage=2 then(0:Int)else 1)=q at *;cases ht with
    | same h=>exact⟨by omega,rfl,rfl⟩
    | add _ h _ _=>omega
    | seen h _=>omega
    | nought h _=>omega
    | gone h _ _ _=>omega
   obtain⟨hb1,rfl,rfl⟩:=hb1;refine .inl (.inr ⟨L,xl,by rw[lS hk];exact hL,h234,fun i z hz hil=>?_,rfl,rfl⟩);rcases yP hz with⟨rfl,rfl⟩ | ⟨_,hz⟩
   ·exact hb1
   ·exact hoth i z hz hil
theorem R3.AU(H:R3 T st sm){x y:WS}(hx:T[k]? = some x):Fits x.stage st sm/\∀(P:Program) (g g':Goroutine) (st' sm':Int),Turn P g g' x.stage y.stage st sm st' sm'->R3 (T.set k y) st' sm':=by
 obtain⟨ha,rfl,rfl⟩:=H;have h1:=ha k x hx;refine⟨⟨fun h=>by omega,fun h=>by omega,fun h=>by omega⟩,fun P g g' st' sm' ht=>?_⟩;have hb1:y.stage=1/\st'=0/\sm'=1:=by
  generalize y.stage=b at *;generalize x.stage=a at *;cases ht with
  | same h=>exact⟨by omega,rfl,rfl⟩
  | add _ h _ _=>omega
  | seen h _=>omega
  | nought h _=>omega
  | gone h _ _ _=>omega
 obtain⟨hb1,rfl,rfl⟩:=hb1;refine⟨fun i z hz=>?_,rfl,rfl⟩;rcases yP hz with⟨rfl,rfl⟩ | ⟨_,hz⟩
 ·exact hb1
 ·exact ha i z hz
theorem MR.shut(hjn:j<=n)(hn:n<2147483648):BN N0 j MR:=by
 intro T k x y st sm hl hs ho hx H;rcases H with H | H | H
 ·obtain⟨h1,h2⟩:=Nf (y:=y) hjn hn hl hs ho hx (.inl H);exact⟨h1,fun P g g' st' sm' ht=>(h2 P g g' st' sm' ht).elim (fun h=>h.elim .inl fun h=>.inr (.inl h)) fun h=>.inr (.inr h.1)⟩
 ·obtain⟨h1,h2⟩:=Nf (y:=y) hjn hn hl hs ho hx (.inr H);exact⟨h1,fun P g g' st' sm' ht=>(h2 P g g' st' sm' ht).elim (fun h=>h.elim .inl fun h=>.inr (.inl h)) fun h=>.inr (.inr h.1)⟩
 ·obtain⟨h1,h2⟩:=H.AU (y:=y) hx;exact⟨h1,fun P g g' st' sm' ht=>.inr (.inr (h2 P g g' st' sm' ht))⟩
end
end Go.Eng
namespace Go.Eng
open Go Go.Conc Go.ConcN
open Go.ConcR (KK wgBlock WgAt stA smA rd wr mk g_of_ofEvents Bk DC0 bk_of_mute ofEvent_loc_mark ofEvent_cell ofEvent_mk deafBehind_cons deafBehind_one again_blocked)
variable {fr:Frame}{cs:List Frame}
section
variable {P:Program}{Φ:Ph}{N0 j:Nat}{h h' h1 hc:Heap}{T:List WS}{gs:Array Goroutine}{w0 w w' : World}{t:Trace}{es:Array Event}{sl:Option (Nat × Nat)}{st sm:Int}{M M' : List WS -> Int -> Int -> Prop}{d0:Nat}{g0 g1:Goroutine}
  {Good:Machine -> Outcome -> World -> Trace -> Prop}
theorem Hj{m:Mark}(h:m=.disable\/m=.enable\/m=.read (smA Φ.Wg)\/m=.write (smA Φ.Wg)\/m=.acquire (stA Φ.Wg)):∀e∈(#[mk m]:Array Event),Bk Φ.Wg e\/e=mk (.read (smA Φ.Wg))\/e=mk (.write (smA Φ.Wg))\/e=mk (.acquire (stA Φ.Wg)):=by
 intro e he;simp only[nP,uO]at he;subst he;rcases h with rfl | rfl | rfl | rfl | rfl
 ·exact .inl (.inl rfl)
 ·exact .inl (.inr (.inl rfl))
 ·exact .inr (.inl rfl)
 ·exact .inr (.inr (.inl rfl))
 ·exact .inr (.inr (.inr rfl))
theorem Zj:∀e∈(#[rd (stA Φ.Wg),wr (stA Φ.Wg)]:Array Event),Bk Φ.Wg e\/e=mk (.read (smA Φ.Wg))\/e=mk (.write (smA Φ.Wg))\/e=mk (.acquire (stA Φ.Wg)):=by
 intro e he;simp only[nP,uU,pB,nA]at he;rcases he with rfl | rfl <;> exact .inl (bk_cell _ _ rfl)
theorem Qu:∀e∈(#[rd (stA Φ.Wg)]:Array Event),Bk Φ.Wg e\/e=mk (.read (smA Φ.Wg))\/e=mk (.write (smA Φ.Wg))\/e=mk (.acquire (stA Φ.Wg)):=by
 intro e he;simp only[nP,uO]at he;subst he;exact .inl (bk_cell _ _ rfl)
theorem sem_bk':∀e∈semEvents (smA Φ.Wg),Bk Φ.Wg e\/e=mk (.read (smA Φ.Wg))\/e=mk (.write (smA Φ.Wg))\/e=mk (.acquire (stA Φ.Wg)):=fun e he=>.inl (bk_sem (smA Φ.Wg) (Wg:=Φ.Wg) rfl e he)
theorem Iop.stop(X:Iop P Φ N0 j h w0 M d0 g0 T gs w t)(hn:BN N0 j M)(hr:g0.status=.running)(sl:Option (Nat×Nat))
  (H:∀T' gs w t sl,Le T' T->Iop P Φ N0 j h w0 M d0 g0 T' gs w t->∃g1 w' es,stepG P true g0 w=.go g1 w' es/\Runs P Good (crowd (ja P gs g0 g1 w') w' sl) (t++MemOp.ofEvents 0 g0.frame.fn g0.frame.place es)):Runs P Good (crowd gs w sl) t:=by
 refine X.AU hn hr (fun T' gs w t sl hle X=>?_) sl;obtain⟨g1,w',es,h1,h2⟩:=H T' gs w t sl hle X;exact .inl ⟨_,_,DS X.g0 h1,h2⟩
theorem zb6{Nx:Frame->List Frame->Prop}(hj:j+1<=Φ.n)(hn:Φ.n<2147483648)(H:BM P Φ Nx fr cs)(X:Iop P Φ N0 j h w0 (MO False 0) 0 (gor fr cs) T gs w t)(sl:Option (Nat×Nat))
  (K:∀fr' cs' T' gs' w' t' sl',Nx fr' cs'->Iop P Φ N0 j h w0 (MO False 1) 0 (gor fr' cs') T' gs' w' t'->Runs P Good (crowd gs' w' sl') t'):Runs P Good (crowd gs w sl) t:=by
 have s0:BN N0 j (MO False 0):=MO.shut (n:=Φ.n) (by omega) hn;have s1:BN N0 j (MO False 1):=MO.shut (n:=Φ.n) hj hn;obtain⟨m,H⟩:=H;refine Iop.sil s0 m _ T gs w t sl H X fun ga T gs w t sl _ hst X=>?_
 refine X.stop s0 (hst w X.J).1 sl fun T gs w t sl _ X=>?_
 obtain⟨_,gb,h1,m,h2⟩:=hst w X.J;obtain⟨st,sm,hw,hM⟩:=X.wg;refine⟨gb,w,_,h1,Iop.sil s0 m gb T _ _ _ sl h2 (X.book (Aside.refl _ _) hw hM (Hj (.inl rfl)) _ _) fun gc T gs w t sl _ hst X=>?_⟩;refine X.stop s0 (hst w X.J).1 sl fun T gs w t sl _ X=>?_
 obtain⟨_,h0⟩:=hst w X.J;obtain⟨st,sm,hw,⟨rfl,rfl,hm⟩,hq⟩:=X.wg;have hVj:=RJ X.I.len X.I.old;obtain⟨gd,h1,h2,h3⟩:=h0 (V T) (by omega) (by simpa using hw);have hA:Aside Φ.Wg w (w.setCell (stA Φ.Wg) (Value.int .u64 ((((V T:Nat):Int)+1)*KK))):=aside_setCell w (stA Φ.Wg) _;have X2:=X.book (g1:=gd) (M':=MO False 1) hA (hw.setSt _) ⟨⟨by simp only[KK];omega,rfl,hm⟩,hq⟩ Zj gc.frame.fn gc.frame.place;have enab:∀ {g T gs w t sl m},Sil P true Φ.J (Jf P Φ Nx) m g->Iop P Φ N0 j h w0 (MO False 1) 1 g T gs w t->Runs P Good (crowd gs w sl) t:=by
  intro g T gs w t sl m h2 X;refine Iop.sil s1 m g T gs w t sl h2 X fun ge T gs w t sl _ hst X=>?_
  refine X.stop s1 (hst w X.J).1 sl fun T gs w t sl _ X=>?_
  obtain⟨_,gf,h1,m,h2⟩:=hst w X.J;obtain⟨st,sm,hw,hM⟩:=X.wg;refine⟨gf,w,_,h1,Iop.sil s1 m gf T _ _ _ sl h2 (X.book (Aside.refl _ _) hw hM (Hj (.inr (.inl rfl))) _ _) fun gg T gs w t sl _ hst X=>?_⟩;obtain⟨fr',cs',rfl,hx⟩:=hst w X.J;exact K fr' cs' T gs w t sl hx X
 refine⟨gd,_,_,h1,?_⟩;by_cases hv:V T=0
 ·obtain⟨m,h4⟩:=h2 hv;refine Iop.sil s1 m gd T _ _ _ sl h4 X2 fun ge T gs w t sl _ hst X=>?_
  refine X.stop s1 (hst w X.J).1 sl fun T gs w t sl _ X=>?_
  obtain⟨_,gf,h1,m,h2⟩:=hst w X.J;obtain⟨st,sm,hw,hM⟩:=X.wg;exact⟨gf,w,_,h1,enab h2 (X.book (Aside.refl _ _) hw hM (Hj (.inr (.inr (.inl rfl)))) _ _)⟩
 ·obtain⟨m,h4⟩:=h3 hv;exact enab h4 X2
theorem Yy{Nx:Frame->List Frame->Heap->Prop}(hj:j+1<=Φ.n)(hn:Φ.n<2147483648)(H:DQ P Φ j Nx fr cs h)(X:Iop P Φ N0 j h w0 (MO False 1) 0 (gor fr cs) T gs w t)(sl:Option (Nat×Nat))
  (K:∀fr' cs' h' T' gs' w' t' sl',Nx fr' cs' h'->(∀b,Φ.S b->h' b=h b)->Iop P Φ N0 (j+1) h' w0 (MO False 0) 0 (gor fr' cs') T' gs' w' t'->Runs P Good (crowd gs' w' sl') t'):Runs P Good (crowd gs w sl) t:=by
 have s1:BN N0 j (MO False 1):=MO.shut (n:=Φ.n) hj hn;obtain⟨h1,hc,su1,suc,hap,hS,H⟩:=H;refine X.AU s1 rfl (fun T gs w t sl _ X=>.inl ?_) sl;obtain⟨fr',cs',frc,csc,hs,⟨rk,hR⟩,hN⟩:=H w X.C.has X.J;refine⟨_,_,runT_crowd_spawn X.g0 hs,K fr' cs' h1 (T++[⟨8,rk,0,hc⟩]) _ _ _ sl hN hS ?_⟩;have hsz:gs.size=T.length+1:=X.I.gsz;obtain⟨st,sm,hw,⟨⟨rfl,rfl,hm⟩,_⟩⟩:=X.wg;have e:∀(a b:MemOp),t++(((MemOp.ofEvents 0 (gor fr cs).frame.fn (gor fr cs).frame.place #[]).push a).push b)=t++#[a,b]:=fun a b=>by
  apply Array.ext';simp[MemOp.ofEvents]
 rw[e,hsz];refine⟨X.C.spawn (by have:=X.I.len;omega) su1 suc hap hS ⟨rfl,rfl⟩ ⟨rfl,rfl⟩ X.deaf rfl,X.I.spawn X.C su1 suc (by omega) X.g0 ⟨rfl,rfl⟩ ⟨rfl,rfl⟩ X.deaf hR,⟨_,_,hw,⟨⟨?_,rfl,?_⟩,False.elim⟩⟩,?_,?_⟩
 ·have:V (T++[(⟨8,rk,0,hc⟩:WS)])=V T+1:=by
   unfold V;rw[List.countP_append];simp
  rw[this]
 ·intro k x hx;rcases kg hx with hx | ⟨_,rfl⟩
  ·exact hm k x hx
  ·exact⟨by simp,by simp,by simp⟩
 ·rw[gX,vM (by rw[lU];omega)];have hlt:=(uS.1 X.g0).1;simp[hlt]
 ·rw[Deaf_still t 0 _ fun op hop=>?_]
  ·exact X.deaf
  ·have:=(Ji (k:=T.length+1) (x:={ g:=0,fn:=(gor fr cs).frame.fn,pos:=(gor fr cs).frame.place,act:=.go (T.length+1) }) (y:={ g:=T.length+1,fn:=(gor frc csc).frame.fn,pos:=(gor fr cs).frame.place,act:=.start }) ⟨rfl,rfl⟩ ⟨rfl,rfl⟩ op hop).2.1;exact⟨this _,this _⟩
theorem Pq(I:InPh P Φ N0 j h T gs w t)(hJ:Φ.J w)(h0:gs[0]? = some g0)(hg:g0.status=.running\/g0.status=.blocked):∀g∈gs,awake g:=Pp I hJ h0 (hg.elim .inl fun h=>.inr (.inr h))
theorem zb7{Nx:Frame->List Frame->Prop}{g3:Goroutine}(hjn:j<=Φ.n)(hn:Φ.n<2147483648)(hst:∀w,Φ.J w->AtW3 P Φ Nx g3 w)
  (K:∀g' T' gs' w' t' sl' m,Sil P true Φ.J (AtW4 P Φ Nx) m g'->Iop P Φ N0 j h w0 (MO True 0) 1 g' T' gs' w' t'->Runs P Good (crowd gs' w' sl') t') :
  ∀T gs w t sl g0,((g0=g3/\Iop P Φ N0 j h w0 MR 1 g0 T gs w t)\/(g0={ g3 with status:=.blocked }/\Iop P Φ N0 j h w0 (fun T st sm=>R1 T st sm\/R2 T st sm) 1 g0 T gs w t))->Runs P Good (crowd gs w sl) t:=by
 intro T;induction (One.wf WS.wf).apply T with
 | intro T _ ih=>
  have other:∀gs w t sl g0 k g,((g0=g3/\Iop P Φ N0 j h w0 MR 1 g0 T gs w t)\/(g0={ g3 with status:=.blocked }/\Iop P Φ N0 j h w0 (fun T st sm=>R1 T st sm\/R2 T st sm) 1 g0 T gs w t))->gs[k+1]? = some g->g.status=.running ->
    ∃m' ops,runT P (crowd gs w sl) (k+1)=(.next m',ops)/\Runs P Good m' (t++ops):=by
   intro gs w t sl g0 k g H hk hrun;rcases H with⟨rfl,X⟩ | ⟨rfl,X⟩
   ·obtain⟨T',gs',w',ops,h1,h2,h3⟩:=X.worker (sl:=sl) (MR.shut hjn hn) (hst w X.J).1 hk hrun;exact⟨_,ops,h1,ih T' h2 gs' w' _ sl g0 (.inl ⟨rfl,h3⟩)⟩
   ·obtain⟨hr3,ho3,_⟩:=hst w X.J;obtain⟨st,sm,hw,hM⟩:=X.wg;have hlt:k<T.length:=by
     have:=(uS.1 hk).1;rw[X.I.gsz]at this;omega
    have hx:=vQ hlt;have hs1:∀(k:Nat) (x:WS),T[k]? = some x->1<=x.stage:=fun k x hx=>by
     obtain⟨g,_,hs⟩:=X.I.sit k x hx;generalize Deaf t (k+1)=d at hs;cases hs <;> simp
    obtain⟨g',w',es,y,st',sm',e1,e2,e3,e4,e5,e6⟩:=Zh X.C X.I hw hk hx hrun (Nf (y:=⟨0,.leaf,0,emp⟩) hjn hn X.I.len hs1 X.I.old hx hM).1;have hR:=(Nf (y:=y) hjn hn X.I.len hs1 X.I.old hx hM).2 _ _ _ _ _ e6;have hdf:Deaf (t++MemOp.ofEvents (k+1) g.frame.fn g.frame.place es) 0=1:=by
     rw[Deaf_other t (by omega) _ g_of_ofEvents];exact X.deaf
    have hz:=EJ (P:=P) (k:=k) (g:=g) (g':=g') (w':=w') X.g0;have hwk:woken P g g' w' ({ g3 with status:=.blocked }:Goroutine)=g3\/woken P g g' w' ({ g3 with status:=.blocked }:Goroutine)={ g3 with status:=.blocked }:=by
     unfold woken;split
     ·exact .inl (again_blocked hr3 ho3 w')
     ·exact .inr rfl
    refine⟨_,_,RG hk e1,ih _ (One.set hx e2) _ _ _ sl (woken P g g' w' ({ g3 with status:=.blocked }:Goroutine)) ?_⟩;rcases hR with hR | ⟨hR,m1,m2,m3⟩
    ·rcases hwk with e | e
     ·exact .inl ⟨e,e3,e4,⟨st',sm',e5,hR.elim .inl fun h=>.inr (.inl h)⟩,by rw[e];rw[e]at hz;exact hz,hdf⟩
     ·exact .inr ⟨e,e3,e4,⟨st',sm',e5,hR⟩,by rw[e];rw[e]at hz;exact hz,hdf⟩
    ·have e:woken P g g' w' ({ g3 with status:=.blocked }:Goroutine)=g3:=by
      unfold woken;rw[vP (by simp[m1,m2,m3])];exact again_blocked hr3 ho3 w'
     exact .inl ⟨e,e3,e4,⟨st',sm',e5,.inr (.inr hR)⟩,by rw[e];rw[e]at hz;exact hz,hdf⟩
  have blk:∀gs w t sl,Iop P Φ N0 j h w0 (fun T st sm=>R1 T st sm\/R2 T st sm) 1 { g3 with status:=.blocked } T gs w t->Runs P Good (crowd gs w sl) t:=by
   intro gs w t sl X;have hrun:∃(i:Nat) (g:Goroutine),gs[i]? = some g/\g.status=.running:=by
    obtain⟨st,sm,hw,hM⟩:=X.wg;have up:∀ {k:Nat} {x:WS},T[k]? = some x->x.stage≠1->∃(i:Nat) (g:Goroutine),gs[i]? = some g/\g.status=.running:=fun hx h1=>by
     obtain⟨g,hg,hs⟩:=X.I.sit _ _ hx;exact⟨_,g,hg,(hs.status X.J).resolve_right fun h=>h1 h.2⟩
    rcases hM with⟨_,_,hV,_⟩ | ⟨L,x,hx,h234,_⟩
    ·obtain⟨x,hx,h5⟩:=List.countP_pos_iff.1 hV;obtain⟨k,hk⟩:=mF hx;exact up hk (by simp at h5;omega)
    ·exact up hx (by omega)
   obtain⟨i,g,d,sl',hg,hr,hstep⟩:=crowd_pick (P:=P) (w:=w) (sl:=sl) (Pq X.I X.J X.g0 (.inr rfl)) hrun;cases i with
   | zero=>rw[X.g0]at hg;cases hg;cases hr
   | succ k=>
    obtain⟨m',ops,e1,e2⟩:=other gs (w.at d) t sl' _ k g (.inr ⟨rfl,X.at d⟩) hg hr;exact .step (hstep.trans e1) e2
  intro gs w t sl g0 H;rcases H with⟨rfl,X⟩ | ⟨rfl,X⟩
  ·obtain⟨i,g,d,sl',hg,hr,hstep⟩:=crowd_pick (P:=P) (w:=w) (sl:=sl) (Pq X.I X.J X.g0 (.inl (hst w X.J).1)) ⟨0,_,X.g0,(hst w X.J).1⟩;cases i with
   | zero=>
    have X':=X.at d;obtain⟨st,sm,hw,hM⟩:=X'.wg;obtain⟨_,_,hb,hg2⟩:=hst (w.at d) X'.J;have fin:R1 T st sm\/R2 T st sm->Runs P Good (crowd gs w sl) t:=fun hR=>by
     have hs0:sm=0:=by
      rcases hR with⟨_,h,_⟩ | ⟨_,_,_,_,_,_,h⟩ <;> exact h
     subst hs0;refine .step (hstep.trans (DS X.g0 (hb ⟨st,hw⟩))) (blk _ _ _ sl' ?_);exact X'.book (M':=fun T st sm=>R1 T st sm\/R2 T st sm) (es:=#[]) (Aside.refl _ _) hw hR (fun e he=>by simp at he) _ _
    rcases hM with hM | hM | ⟨hall,rfl,rfl⟩
    ·exact fin (.inl hM)
    ·exact fin (.inr hM)
    ·obtain⟨g',e1,m,e2⟩:=hg2 hw;refine .step (hstep.trans (DS X.g0 e1)) (K g' T _ _ _ sl' m e2 ?_);have hV0:V T=0:=by
      unfold V;refine fP.2 fun x hx=>?_
      obtain⟨k,hk⟩:=mF hx;simp[hall k x hk]
     have hA:Aside Φ.Wg (w.at d) ((w.at d).setCell (smA Φ.Wg) (Value.int .u32 0)):=aside_setCell _ (smA Φ.Wg) _;exact X'.book (M':=MO True 0) hA (hw.setSm _) ⟨⟨by rw[hV0];simp[KK],rfl,fun k x hx=>by have:=hall k x hx;omega⟩,fun _=>hall⟩ sem_bk' _ _
   | succ k=>
    obtain⟨m',ops,e1,e2⟩:=other gs (w.at d) t sl' _ k g (.inl ⟨rfl,X.at d⟩) hg hr;exact .step (hstep.trans e1) e2
  ·exact blk gs w t sl X
theorem zav{Nx:Frame->List Frame->Prop}(hjn:j<=Φ.n)(hn:Φ.n<2147483648)(H:qz P Φ Nx fr cs)(X:Iop P Φ N0 j h w0 (MO False 0) 0 (gor fr cs) T gs w t)(sl:Option (Nat×Nat))
  (K:∀g' T' gs' w' t' sl',(∀w,Φ.J w->Lu P Φ Nx g' w)->Iop P Φ N0 j h w0 (MO True 0) 0 g' T' gs' w' t'->Runs P Good (crowd gs' w' sl') t'):Runs P Good (crowd gs w sl) t:=by
 have s0:BN N0 j (MO False 0):=MO.shut (n:=Φ.n) (by omega) hn;have s1:BN N0 j (MO True 0):=MO.shut (n:=Φ.n) (by omega) hn;have sr:BN N0 j MR:=MR.shut hjn hn;obtain⟨Anch,hAn,m,H⟩:=H;have enab:∀ {g T gs w t sl m},Sil P true Φ.J (Jg P Φ Nx) m g->Iop P Φ N0 j h w0 (MO True 0) 1 g T gs w t->Runs P Good (crowd gs w sl) t:=by
  intro g T gs w t sl m h2 X;refine Iop.sil s1 m g T gs w t sl h2 X fun ge T gs w t sl _ hst X=>?_
  refine X.stop s1 (hst w X.J).1 sl fun T gs w t sl _ X=>?_
  obtain⟨_,gf,h1,m,h2⟩:=hst w X.J;obtain⟨st,sm,hw,hM⟩:=X.wg;exact⟨gf,w,_,h1,Iop.sil s1 m gf T _ _ _ sl h2 (X.book (Aside.refl _ _) hw hM (Hj (.inr (.inl rfl))) _ _) fun gg T gs w t sl _ hst X=>K gg T gs w t sl hst X⟩
 have loop:∀T gs w t sl m g0,Sil P true Φ.J (fun g _=>Anch g) m g0->Iop P Φ N0 j h w0 (MO False 0) 1 g0 T gs w t->Runs P Good (crowd gs w sl) t:=by
  intro T;induction (One.wf WS.wf).transGen.apply T with
  | intro T _ ih=>
   intro gs w t sl m g0 H X;refine Iop.sil s0 m g0 T gs w t sl H X fun g1 T1 gs w t sl l1 hst X=>?_
   obtain⟨m,H⟩:=hAn g1 (hst w X.J);refine Iop.sil s0 m g1 T1 gs w t sl H X fun g2 T2 gs w t sl l2 hst X=>?_
   refine X.stop s0 (hst w X.J).1 sl fun T3 gs w t sl l3 X=>?_
   obtain⟨_,h0⟩:=hst w X.J;obtain⟨st,sm,hw,⟨⟨rfl,rfl,hm⟩,hq⟩⟩:=X.wg;have hVj:=RJ X.I.len X.I.old;obtain⟨g3,h1,h2,h3⟩:=h0 (V T3) (by omega) (by simpa using hw);refine⟨g3,w,_,h1,?_⟩;by_cases hv:V T3=0
   ·obtain⟨m,h4⟩:=h2 hv;refine enab h4 (X.book (M':=MO True 0) (Aside.refl _ _) hw ⟨⟨rfl,rfl,hm⟩,fun _ k x hx=>?_⟩ Qu _ _);have e1:=hm k x hx;have e2:¬5<=x.stage:=fun h5=>by have:=UE hx h5;omega
    obtain⟨g,_,hs⟩:=X.I.sit k x hx;generalize Deaf t (k+1)=d at hs;cases hs <;> simp at e1 e2 ⊢
   ·obtain⟨m,h4⟩:=h3 hv;refine Iop.sil s0 m g3 T3 _ _ _ sl h4 (X.book (M':=MO False 0) (Aside.refl _ _) hw ⟨⟨rfl,rfl,hm⟩,hq⟩ Qu _ _) fun g4 T4 gs w t sl l4 hst X=>?_
    refine X.stop s0 (hst w X.J).1 sl fun T5 gs w t sl l5 X=>?_
    obtain⟨_,h0⟩:=hst w X.J;obtain⟨st,sm,hw,⟨⟨rfl,rfl,hm⟩,hq⟩⟩:=X.wg;have hVj:=RJ X.I.len X.I.old;obtain⟨h5,h6⟩:=h0 (V T5) (by omega) (by simpa using hw);by_cases hvv:V T5=V T3
    ·obtain⟨g5,e1,m,e2⟩:=h5 hvv;have hA:Aside Φ.Wg w (w.setCell (stA Φ.Wg) (Value.int .u64 (((V T5:Nat):Int)*KK+1))):=aside_setCell w (stA Φ.Wg) _;refine⟨g5,_,_,e1,Iop.sil sr m g5 T5 _ _ _ sl e2 (X.book (M':=MR) hA (hw.setSt _) (.inl ⟨rfl,rfl,by omega,hm⟩) Zj _ _) fun g6 T6 gs w t sl l6 hst X=>?_⟩;refine X.stop sr (hst w X.J).1 sl fun T7 gs w t sl l7 X=>?_
     obtain⟨_,g7,e1,m,e2⟩:=hst w X.J;obtain⟨st,sm,hw,hM⟩:=X.wg;refine⟨g7,w,_,e1,Iop.sil sr m g7 T7 _ _ _ sl e2 (X.book (Aside.refl _ _) hw hM (Hj (.inr (.inr (.inr (.inl rfl))))) _ _) fun g8 T8 gs w t sl l8 hst X=>?_⟩;refine zb7 hjn hn hst (fun g9 T9 gs w t sl m hs X=>?_) T8 gs w t sl g8 (.inl ⟨rfl,X⟩);refine Iop.sil s1 m g9 T9 _ _ _ sl hs X fun g10 T10 gs w t sl _ hst X=>?_
     refine X.stop s1 (hst w X.J).1 sl fun T11 gs w t sl _ X=>?_
     obtain⟨_,h0⟩:=hst w X.J;obtain⟨st,sm,hw,hM⟩:=X.wg;obtain⟨⟨rfl,rfl,hm⟩,hall⟩:=hM;have hV0:V T11=0:=by
      unfold V;refine fP.2 fun x hx=>?_
      obtain⟨k,hk⟩:=mF hx;simp[hall trivial k x hk]
     obtain⟨g11,e1,m,e2⟩:=h0 (by simpa[hV0]using hw);exact⟨g11,w,_,e1,enab e2 (X.book (M':=MO True 0) (Aside.refl _ _) hw ⟨⟨rfl,rfl,hm⟩,hall⟩ Qu _ _)⟩
    ·obtain⟨g5,e1,m,e2⟩:=h6 hvv;have up:∀ {A B:List WS},Le A B->A=B\/Relation.TransGen (One WS.lt) A B:=fun h=>by
      induction h with
      | refl=>exact .inl rfl
      | step h1 _ ih=>exact .inr (ih.elim (fun e=>e ▸ .single h1) fun h2=>.trans (.single h1) h2)
     have hlt:Relation.TransGen (One WS.lt) T5 T:=by
      rcases up (l5.trans l4)with e | e
      ·exact absurd (by rw[e]) hvv
      ·rcases up (l3.trans (l2.trans l1))with e2 | e2
       ·exact e2▸e
       ·exact .trans e e2
     exact⟨g5,w,_,e1,ih T5 hlt _ _ _ sl m g5 e2 (X.book (M':=MO False 0) (Aside.refl _ _) hw ⟨⟨rfl,rfl,hm⟩,hq⟩ Qu _ _)⟩
 refine Iop.sil s0 m _ T gs w t sl H X fun ga T gs w t sl _ hst X=>?_
 refine X.stop s0 (hst w X.J).1 sl fun T gs w t sl _ X=>?_
 obtain⟨_,gb,h1,m,h2⟩:=hst w X.J;obtain⟨st,sm,hw,hM⟩:=X.wg;exact⟨gb,w,_,h1,loop T _ _ _ sl m gb h2 (X.book (Aside.refl _ _) hw hM (Hj (.inl rfl)) _ _)⟩
theorem zcI(hS:∀fr cs h Q,¬Φ.S.big fr cs h Q)(hn:Φ.n<2147483648){Q:Frame->List Frame->Heap->Prop} :
  ∀(r j:Nat) (fr:Frame) (cs:List Frame) (h:Heap) (T:List WS) (gs:Array Goroutine) (w:World) (t:Trace) (sl:Option (Nat×Nat)),r+j=Φ.n->Sp P Φ Q r fr cs h->Iop P Φ N0 j h w0 (MO False 0) 0 (gor fr cs) T gs w t ->
   (∀h' g' T' gs' w' t' sl',(∀b,Φ.S b->h' b=h b)->(∀w,Φ.J w->Lu P Φ (fun fr' cs'=>Q fr' cs' h') g' w)->Iop P Φ N0 Φ.n h' w0 (MO True 0) 0 g' T' gs' w' t'->Runs P Good (crowd gs' w' sl') t')->Runs P Good (crowd gs w sl) t:=by
 intro r;induction r with
 | zero=>
  intro j fr cs h T gs w t sl hr H X K;obtain rfl:j=Φ.n:=by omega
  refine Iop.safe hS (MO.shut (n:=Φ.n) (by omega) hn) H T gs w t sl X fun fr' cs' h' T' gs' w' t' sl' hW hro X=>?_
  exact zav (uN _) hn hW X sl' fun g' T2 gs2 w2 t2 sl2 hst X=>K h' g' T2 gs2 w2 t2 sl2 hro hst X
 | succ r ih=>
  intro j fr cs h T gs w t sl hr H X K;have hjj:Φ.n-(r+1)=j:=by omega
  refine Iop.safe hS (MO.shut (n:=Φ.n) (by omega) hn) H T gs w t sl X fun fr1 cs1 ha T1 gs1 w1 t1 sl1 hA hro1 X=>?_
  refine zb6 (by omega) hn hA X sl1 fun fr2 cs2 T2 gs2 w2 t2 sl2 hN X=>?_
  refine Iop.safe hS (MO.shut (n:=Φ.n) (by omega) hn) hN T2 gs2 w2 t2 sl2 X fun fr3 cs3 hb T3 gs3 w3 t3 sl3 hB hro2 X=>?_
  rw[hjj]at hB;refine Yy (by omega) hn hB X sl3 fun fr4 cs4 hd T4 gs4 w4 t4 sl4 hC hro3 X=>?_
  exact ih (j+1) fr4 cs4 hd T4 gs4 w4 t4 sl4 (by omega) hC X fun h' g' T' gs' w' t' sl' hro=>K h' g' T' gs' w' t' sl' fun b hb'=>by rw[hro b hb',hro3 b hb',hro2 b hb',hro1 b hb']
end
end Go.Eng
namespace Go.Eng
open Go Go.Conc
open Go.ConcN hiding upd upd_same upd_ne
open Go.ConcR (KK wgBlock WgAt stA smA rd wr mk g_of_ofEvents Bk DC0 bk_of_mute ofEvent_loc_mark ofEvent_cell ofEvent_mk deafBehind_cons deafBehind_one)
variable {g:Goroutine}{fr:Frame}{cs:List Frame}{P:Program}
section
variable {Φ:Ph}{main:Bool}{J:World -> Prop}{Nx Nx' : Frame -> List Frame -> Prop}
theorem Sil.mono{Stop Stop':Goroutine->World->Prop}(hS:∀g w,Stop g w->Stop' g w):∀ {n:Nat} {g:Goroutine},Sil P main J Stop n g->Sil P main J Stop' n g:=by
 intro n;induction n with
 | zero=>exact fun H w w₁ hw=>hS _ _ (H w w₁ hw)
 | succ n ih=>
  intro g H w;rcases H w with h | ⟨hs,h⟩
  ·exact .inl fun w₁ hw=>hS _ _ (h w₁ hw)
  ·refine .inr ⟨hs,fun w₁ hw=>?_⟩;have:=h w₁ hw;revert this;cases stepG P main g w₁ <;> simp only[GStep.goes,imp_self]
   exact fun⟨d,x⟩=>⟨d,ih (Sil.of x) _⟩
theorem kT{Stop Stop':Goroutine->World->Prop}(hS:∀g w,Stop g w->Stop' g w):(∃m,Sil P main J Stop m g)->∃m,Sil P main J Stop' m g:=fun⟨m,h⟩=>⟨m,h.mono hS⟩
variable (hN:∀ fr cs, Nx fr cs -> Nx' fr cs)
include hN
theorem RD.mono(g:Goroutine)(w:World):RD Nx g w->RD Nx' g w:=fun⟨fr,cs,e,h⟩=>⟨fr,cs,e,hN _ _ h⟩
theorem Jf.mono(g:Goroutine)(w:World):Jf P Φ Nx g w->Jf P Φ Nx' g w:=fun⟨h1,g',h2,h3⟩=>⟨h1,g',h2,kT (RD.mono hN) h3⟩
theorem RE.mono(g:Goroutine)(w:World):RE P Φ Nx g w->RE P Φ Nx' g w:=fun⟨h1,g',h2,h3⟩=>⟨h1,g',h2,kT (Jf.mono hN) h3⟩
theorem AtA1.mono(g:Goroutine)(w:World):AtA1 P Φ Nx g w->AtA1 P Φ Nx' g w:=fun⟨h1,h2⟩=>⟨h1,fun v hv hw=>let⟨g',h3,h4,h5⟩:=h2 v hv hw;⟨g',h3,fun e=>kT (RE.mono hN) (h4 e),fun e=>kT (Jf.mono hN) (h5 e)⟩⟩
theorem Ov.mono(g:Goroutine)(w:World):Ov P Φ Nx g w->Ov P Φ Nx' g w:=fun⟨h1,g',h2,h3⟩=>⟨h1,g',h2,kT (AtA1.mono hN) h3⟩
theorem BM.mono(H:BM P Φ Nx fr cs):BM P Φ Nx' fr cs:=kT (Ov.mono hN) H
theorem Lu.mono(g:Goroutine)(w:World):Lu P Φ Nx g w->Lu P Φ Nx' g w:=fun⟨h1,fr,cs,h2,h3⟩=>⟨h1,fr,cs,h2,hN _ _ h3⟩
theorem Jg.mono(g:Goroutine)(w:World):Jg P Φ Nx g w->Jg P Φ Nx' g w:=fun⟨h1,g',h2,h3⟩=>⟨h1,g',h2,kT (Lu.mono hN) h3⟩
theorem AtW4.mono(g:Goroutine)(w:World):AtW4 P Φ Nx g w->AtW4 P Φ Nx' g w:=fun⟨h1,h2⟩=>⟨h1,fun hw=>let⟨g',h3,h4⟩:=h2 hw;⟨g',h3,kT (Jg.mono hN) h4⟩⟩
theorem AtW3.mono(g:Goroutine)(w:World):AtW3 P Φ Nx g w->AtW3 P Φ Nx' g w:=fun⟨h1,h2,h3,h4⟩=>⟨h1,h2,h3,fun hw=>let⟨g',h5,h6⟩:=h4 hw;⟨g',h5,kT (AtW4.mono hN) h6⟩⟩
theorem RF.mono(g:Goroutine)(w:World):RF P Φ Nx g w->RF P Φ Nx' g w:=fun⟨h1,g',h2,h3⟩=>⟨h1,g',h2,kT (AtW3.mono hN) h3⟩
theorem AtW2.mono{Anch:Goroutine->Prop}{vs:Nat}(g:Goroutine)(w:World):AtW2 P Φ Nx Anch vs g w->AtW2 P Φ Nx' Anch vs g w:=
 fun⟨h1,h2⟩=>⟨h1,fun v hv hw=>⟨fun e=>let⟨g',h3,h4⟩:=(h2 v hv hw).1 e;⟨g',h3,kT (RF.mono hN) h4⟩,(h2 v hv hw).2⟩⟩
theorem AtW1.mono{Anch:Goroutine->Prop}(g:Goroutine)(w:World):AtW1 P Φ Nx Anch g w->AtW1 P Φ Nx' Anch g w:=
 fun⟨h1,h2⟩=>⟨h1,fun v hv hw=>let⟨g',h3,h4,h5⟩:=h2 v hv hw;⟨g',h3,fun e=>kT (Jg.mono hN) (h4 e),fun e=>kT (AtW2.mono hN) (h5 e)⟩⟩
theorem qz.mono(H:qz P Φ Nx fr cs):qz P Φ Nx' fr cs:=let⟨Anch,h1,h2⟩:=H;⟨Anch,fun g hg=>kT (AtW1.mono hN) (h1 g hg),h2⟩
end
variable {f h h1:Heap}
section
variable {Φ:Ph}
theorem Ps(s:Sub h1 h)(ha:Apart h f):Apart h1 f:=fun b hb=>by
 cases e:h1 b with
 | none=>rfl
 | some o=>have:=s b o e;rw[ha b hb]at this;cases this
theorem RK(s:Sub h1 h)(ha:Apart h f):Sub (plus h1 f) (plus h f):=fun b o hb=>by
 unfold plus at hb ⊢;cases e:h1 b with
 | some u=>rw[e]at hb;rw[s b u e];exact hb
 | none=>
  rw[e]at hb;have:h b=none:=ha b (by simp only at hb;rw[hb];simp);rw[this];exact hb
theorem DQ.frame{i:Nat}{Nx Nx':Frame->List Frame->Heap->Prop}(ha:Apart h f)(hN:∀fr cs h1,Nx fr cs h1->Apart h1 f->Nx' fr cs (plus h1 f))(H:DQ P Φ i Nx fr cs h):DQ P Φ i Nx' fr cs (plus h f):=by
 obtain⟨h1,hc,s1,sc,hap,hS,H⟩:=H;refine⟨plus h1 f,hc,RK s1 ha,fun b o hb=>by simp[plus,sc b o hb],fun b hb hn=>yj.2 ⟨hap b hb hn,?_⟩,fun b hb=>by simp[plus,hS b hb],fun w hw hJ=>?_⟩
 ·cases e:f b with
  | none=>rfl
  | some o=>
   have h2:=ha b (by rw[e];simp);cases e2:hc b with
   | none=>exact absurd e2 hn
   | some u=>rw[sc b u e2]at h2;cases h2
 ·obtain⟨fr',cs',frc,csc,h2,h3,h4⟩:=H w hw.left hJ;exact⟨fr',cs',frc,csc,h2,h3,hN _ _ _ h4 (Ps s1 ha)⟩
theorem Sp.frame{Q:Frame->List Frame->Heap->Prop}:∀(r:Nat) {fr:Frame} {cs:List Frame} {h:Heap},Apart h f->Sp P Φ Q r fr cs h->Sp P Φ (fun fr cs h2=>∃h1,Q fr cs h1/\Apart h1 f/\h2=plus h1 f) r fr cs (plus h f):=by
 intro r;induction r with
 | zero=>
  intro fr cs h ha H;refine(Safe.frame H f ha).bind fun fr cs h2 ⟨h1,hW,ha1,e⟩=>.done ?_
  exact qz.mono (fun fr' cs' hq=>⟨h1,hq,ha1,e⟩) hW
 | succ r ih=>
  intro fr cs h ha H;refine(Safe.frame H f ha).bind fun fr cs h2 ⟨h1,hA,ha1,e⟩=>.done ?_
  subst e;refine BM.mono (fun fr' cs' hB=>?_) hA;refine(Safe.frame hB f ha1).bind fun fr cs h2 ⟨h3,hC,ha3,e⟩=>.done ?_
  subst e;exact hC.frame ha3 fun fr cs h1 hq ha=>ih ha hq
end
variable {b:Nat}{o:Obj}
theorem upd_same':upd h b o b=some o:=by simp[upd]
theorem upd_ne'{b x:Nat}(hx:x≠b):upd h b o x=h x:=by simp[upd,hx]
def Ph.vals(Φ:Ph):Array Value:=((List.range Φ.n).map Φ.val).toArray
def Ph.rest(Φ:Ph)(h:Heap):Heap:=fun b=>if b=Φ.Wg\/b=Φ.C then none else h b
structure PhOk(Φ:Ph)(S:Nat->Prop)(h:Heap)(zs:Array Value):Prop where
 nobig:∀fr cs h Q,¬Φ.S.big fr cs h Q
 small:Φ.n<2147483648
 ne:Φ.C≠Φ.Wg
 wg:h Φ.Wg=some (wgBlock Φ.ty 0 0)
 arr:h Φ.C=some (.cells zs Φ.ety)
 size:zs.size=Φ.n
 sub:∀b,S b->Φ.S b
 held:∀b,Φ.S b->Φ.rest h b≠none
def Phase(P:Program)(S:Nat->Prop)(fr:Frame)(cs:List Frame)(h:Heap)(Q:Frame->List Frame->Heap->Prop):Prop:=
 ∃(Φ:Ph) (zs:Array Value),PhOk Φ S h zs/\Sp P Φ (fun fr' cs' h'=>Q fr' cs' (upd h' Φ.C (.cells Φ.vals Φ.ety))) Φ.n fr cs (Φ.rest h)
def yb(P:Program)(s:Nat->Prop):Shared:=⟨s,Phase P s⟩
structure Out(P:Program)(S:Shared)(w0:World)(h:Heap)(g0:Goroutine)(T:List WS)(gs:Array Goroutine)(w:World)(t:Trace):Prop where
 C:Com w0 S T.length h T w t
 gsz:gs.size=T.length+1
 sit:∀(k:Nat) (x:WS),T[k]? = some x->x.heap=emp/\x.stage=1/\∃g,gs[k+1]? = some g/\QuitsD P x.fuel (Deaf t (k+1)) g
 g0:gs[0]? = some g0
 deaf:Deaf t 0=0
section
variable {Φ:Ph}{S:Shared}{N0 j:Nat}{h' hc : Heap}{T:List WS}{gs:Array Goroutine}{w0 w w' : World}{t:Trace}{es:Array Event}{sl:Option (Nat × Nat)}{st sm:Int}{g0 g1:Goroutine}
  {Good:Machine -> Outcome -> World -> Trace -> Prop}
theorem Out.at(X:Out P S w0 h g0 T gs w t)(d:Nat):Out P S w0 h g0 T gs (w.at d) t:=⟨X.C.at d,X.gsz,X.sit,X.g0,X.deaf⟩
theorem Out.worker(X:Out P S w0 h g0 T gs w t)(hr:g0.status=.running){k:Nat}(hk:gs[k+1]? = some g)(hrun:g.status=.running) :
  ∃T' gs' w' ops,runT P (crowd gs w sl) (k+1)=(.next (crowd gs' w' sl),ops)/\One WS.lt T' T/\Out P S w0 h g0 T' gs' w' (t++ops):=by
 have hlt:k<T.length:=by
  have:=(uS.1 hk).1;rw[X.gsz]at this;omega
 have hx:=vQ hlt;generalize T[k]=x at hx;obtain⟨he,h1,g',hg,hQ⟩:=X.sit k x hx;rw[hk]at hg;cases hg
 obtain⟨s,rk,m,hp⟩:=x;simp only at he h1 hQ;subst he h1;cases m with
 | zero=>rw[hQ.1]at hrun;cases hrun
 | succ m=>
  rcases hQ with⟨h1,_⟩ | ⟨_,g',es,hm,h1,h2⟩
  ·rw[h1]at hrun;cases hrun
  ·have ht:∀e∈es,(MemAct.ofEvent e).touch? = none:=fun e he=>by
    rcases bk_of_mute (Wg:=0) (hm e he)with h3 | h3 | ⟨a,q,h3,_⟩
    ·rw[ofEvent_loc_mark h3];rfl
    ·rw[ofEvent_loc_mark h3];rfl
    ·have:=hm e he;rw[h3]at this;simp[Event.mute]at this
   refine⟨T.set k ⟨1,rk,m,emp⟩,_,w,_,RG hk (h1 w),One.set hx (WS.Ox rfl rfl (mZ _)),?_,?_,?_,?_,?_⟩
   ·rw[uR];refine X.C.other (g:=k+1) (by omega) g_of_ofEvents (uR ..) (fun i z hz=>?_) ⟨rfl,rfl,rfl⟩ rfl (fun b _=>rfl) (fun op hop b hb=>?_) (fun op hop a hr=>?_) (.inr (.inr fun op hop=>?_))
    ·rcases yP hz with⟨rfl,rfl⟩ | ⟨_,hz⟩
     ·exact⟨_,hx,fun b hb=>absurd rfl hb⟩
     ·exact⟨z,hz,fun b _=>rfl⟩
    ·obtain⟨e,he,rfl⟩:=yS hop;have:=ht e he;simp only at hb;rw[this]at hb;cases hb
    ·obtain⟨e,he,rfl⟩:=yS hop;simp only at hr;rcases bk_of_mute (Wg:=0) (hm e he)with h3 | h3 | ⟨a,q,h3,_⟩
     ·rw[ofEvent_loc_mark h3]at hr;cases hr
     ·rw[ofEvent_loc_mark h3]at hr;cases hr
     ·have:=hm e he;rw[h3]at this;simp[Event.mute]at this
    ·obtain⟨e,he,rfl⟩:=yS hop;exact ht e he
   ·rw[uR,<-X.gsz];simp[q9]
   ·intro i z hz;rcases yP hz with⟨rfl,rfl⟩ | ⟨hi,hz⟩
    ·exact⟨rfl,rfl,g',Jh hk,by rw[Deaf_own];exact h2⟩
    ·obtain⟨h3,h4,o,ho,hq⟩:=X.sit i z hz;exact⟨h3,h4,o,Nc (uW hi) ho hq.status,by rw[WH _ _ es (uW hi)];exact hq⟩
   ·rw[EJ X.g0,Cx (.inl hr)]
   ·rw[Deaf_other t (by omega) _ g_of_ofEvents];exact X.deaf
theorem Out.awake(X:Out P S w0 h g0 T gs w t)(hr:g0.status=.running):∀g∈gs,awake g:=by
 intro g hg2 tm;obtain⟨i,hi⟩:=Array.mem_iff_getElem?.1 hg2;cases i with
 | zero=>
  rw[X.g0]at hi;cases hi
  rw[hr];simp
 | succ i=>
  have hlt:i<T.length:=by
   have:=(uS.1 hi).1;rw[X.gsz]at this;omega
  obtain⟨_,_,g',hg',hq⟩:=X.sit i _ (vQ hlt);rw[hi]at hg';cases hg'
  rcases hq.status with h | h <;> rw[h] <;> simp
theorem Out.AU(hr:g0.status=.running)(hM:∀T' gs w t sl,Out P S w0 h g0 T' gs w t->Lv P Good gs w sl t)(X:Out P S w0 h g0 T gs w t)(sl:Option (Nat×Nat)):Runs P Good (crowd gs w sl) t:=
 Eng.AU (I:=fun T gs w t=>Out P S w0 h g0 T gs w t) (T0:=T) (fun T gs w t d X=>X.at d) (fun T gs w t X=>X.awake hr) (fun T gs w t X=>⟨0,g0,X.g0,hr⟩)
  (fun T gs w t sl k g X hk hg=>X.worker hr hk hg) (fun T' gs w t sl g _ X _ _=>hM T' gs w t sl X) T gs w t sl (.refl T) X
theorem Out.UF(X:Out P S w0 h g0 T gs w t)(K:Kept S h h' w w')(hes:∀e∈es,AO S h w w' e)(fn:FuncId)(pos:String):Out P S w0 h' g1 T (ja P gs g0 g1 w') w' (t++MemOp.ofEvents 0 fn pos es):=by
 refine⟨X.C.main K hes fn pos,by rw[<-X.gsz];simp[ja],fun k x hx=>?_,Du X.g0,?_⟩
 ·obtain⟨h1,h2,o,ho,hq⟩:=X.sit k x hx;exact⟨h1,h2,o,Dv ho hq.status,by rw[Deaf_other t (by omega) _ g_of_ofEvents];exact hq⟩
 ·rw[Deaf_own,X.deaf];refine deafBehind_idle (fun e he=>?_) _;rcases hes e he with⟨a,h1,_⟩ | ⟨m,hm,rfl⟩
  ·rw[h1];exact⟨by simp,by simp⟩
  ·cases m <;> simp[Quiet]at hm ⊢
theorem Out.enter{zs:Array Value}(hΦ:PhOk Φ S h zs)(ha:Apart h f)(X:Out P S w0 (plus h f) g0 T gs w t):Iop P Φ T.length 0 (plus (Φ.rest h) f) w0 (MO False 0) 0 g0 T gs w t:=by
 have held:∀ {b:Nat},h b≠none->plus h f b≠none:=fun hb hn=>hb (yj.1 hn).1
 have hfW:f Φ.Wg=none:=by
  cases e:f Φ.Wg with
  | none=>rfl
  | some o=>have:=ha Φ.Wg (by rw[e];simp);rw[hΦ.wg]at this;cases this
 have hfC:f Φ.C=none:=by
  cases e:f Φ.C with
  | none=>rfl
  | some o=>have:=ha Φ.C (by rw[e];simp);rw[hΦ.arr]at this;cases this
 have sub:Sub (plus (Φ.rest h) f) (plus h f):=RK (fun b o hb=>by
  unfold Ph.rest at hb
  split at hb
  ·cases hb
  ·exact hb) ha
 have noE:∀ {k:Nat} {x:WS},T[k]? = some x->∀b,x.heap b=none:=fun hx b=>by rw[(X.sit _ _ hx).1];rfl
 have kn:∀(i:Nat) (a:Touch) (ad:Addr),touchAt t i=some a->a.loc=.cell ad->plus h f ad.block≠none->Knows t 0 i:=fun i a ad h1 h2 h3=>by
  rcases X.C.kn i a ad h1 h2 h3 with h4 | ⟨_,_,_,q,h5,h6⟩
  ·exact h4
  ·obtain⟨op,ho,rfl⟩:=vW.1 h6;have:=X.C.gsb i op ho;omega
 have hwW:WgAt Φ.ty Φ.Wg w 0 0:=X.C.has Φ.Wg _ (by simp[plus,hΦ.wg]);have hwC:w.heap[Φ.C]? = some (.cells zs Φ.ety):=X.C.has Φ.C _ (by simp[plus,hΦ.arr]);refine⟨⟨X.C.env,X.C.has.sub sub,fun b hb hn=>hΦ.held b hb (yj.1 hn).1,X.C.hasW,fun i x hx b _ hb=>absurd (noE hx b) hb,fun i q x y hx _ _ b _ hb=>absurd (noE hx b) hb,X.C.nr,X.C.gsb,X.C.lo,X.C.norel,fun i a ad h1 h2 h3=>.inl (kn i a ad h1 h2 fun hn=>?_),fun k x hx i a ad _ _ hb=>absurd (noE hx _) hb,X.C.ho⟩,?_,⟨0,0,hwW,⟨?_,?_,?_⟩,False.elim⟩,X.g0,X.deaf⟩
 ·obtain⟨h4,h5⟩:=yj.1 hn;refine h3 (yj.2 ⟨?_,h5⟩);unfold Ph.rest;split
  ·rfl
  ·exact h4
 ·refine⟨rfl,lE _,X.gsz,fun k x hx=>?_,fun k x hx _=>(X.sit k x hx).2.1,hΦ.ne,⟨yj.2 ⟨by simp[Ph.rest],hfW⟩,yj.2 ⟨by simp[Ph.rest],hfC⟩⟩,fun k x hx=>⟨noE hx _,noE hx _⟩,⟨?_,?_⟩,⟨zs,hwC,hΦ.size⟩,fun i a ad h1 h2 h3=>.inr fun k hk=>?_,fun off i a _ h1 h2=>?_,fun k x hx h8=>?_,fun i a ad h1 h2 h3=>.inl ?_,fun k x hx hk=>?_,fun k x hx hk=>?_⟩
  ·obtain⟨h1,h2,o,ho,hq⟩:=X.sit k x hx;obtain⟨s,rk,m,hp⟩:=x;simp only at h1 h2 hq;subst h1 h2;exact⟨o,ho,.quit hq⟩
  ·exact X.C.has.lt (b:=Φ.Wg) (by simp[plus,hΦ.wg];rfl)
  ·exact X.C.has.lt (b:=Φ.C) (by simp[plus,hΦ.arr];rfl)
  ·obtain rfl:k=0:=by omega
   exact kn i a ad h1 h2 (held (by rw[h3,hΦ.wg];simp))
  ·exact kn i a _ h1 h2 (held (by rw[hΦ.arr];simp))
  ·have:=(X.sit k x hx).2.1;omega
  ·exact kn i a ad h1 h2 (held (by rw[h3,hΦ.arr];simp))
  ·have:=(vS.1 hx).1;omega
  ·have:=(vS.1 hx).1;omega
 ·have:V T=0:=by
   unfold V;refine fP.2 fun x hx=>?_
   obtain⟨k,hk⟩:=mF hx;simp[(X.sit k x hk).2.1]
  rw[this];simp
 ·rfl
 ·exact fun k x hx=>by have:=(X.sit k x hx).2.1;omega
theorem Iop.join(hsub:∀b,S b->Φ.S b)(X:Iop P Φ N0 Φ.n h w0 (MO True 0) 0 g0 T gs w t)(fn:FuncId)(pos:String):Out P S w0 (upd h Φ.C (.cells Φ.vals Φ.ety)) g1 T (ja P gs g0 g1 w) w (t++MemOp.ofEvents 0 fn pos #[Go.ConcR.mk (.acquire (stA Φ.Wg))]):=by
 obtain⟨st,sm,hw,⟨_,hall⟩⟩:=X.wg;have hall:=hall trivial;have emps:∀ {k:Nat} {x:WS},T[k]? = some x->x.heap=emp/\∃g,gs[k+1]? = some g/\QuitsD P x.fuel (Deaf t (k+1)) g:=fun {k x} hx=>by
  obtain⟨g,hg,hs⟩:=X.I.sit k x hx;have h1:=hall k x hx;generalize Deaf t (k+1)=d at hs ⊢;cases hs <;> simp at h1
  case quit hq=>exact⟨rfl,g,hg,hq⟩
 have X2:Iop P Φ N0 Φ.n h w0 (MO True 0) 0 g1 T (ja P gs g0 g1 w) w (t++MemOp.ofEvents 0 fn pos #[Go.ConcR.mk (.acquire (stA Φ.Wg))]):=X.book (Aside.refl _ _) hw ⟨‹_›,fun _=>hall⟩ (Hj (.inr (.inr (.inr (.inr rfl))))) fn pos;have eu:MemOp.ofEvents 0 fn pos #[Go.ConcR.mk (.acquire (stA Φ.Wg))]=#[{ g:=0,fn,pos,act:=.mark (.acquire (stA Φ.Wg)) }]:=by rw[ofEvents_eq];simp[ofEvent_mk]
 generalize hu:MemOp.ofEvents 0 fn pos #[Go.ConcR.mk (.acquire (stA Φ.Wg))]=u at X2 eu ⊢;have hlast:(t++u)[t.size]? = some { g:=0,fn,pos,act:=.mark (.acquire (stA Φ.Wg)) }:=by rw[eu];simp
 have hq:(t++u).act? t.size=some (.mark (.acquire (stA Φ.Wg))):=by rw[act?_of hlast]
 have hqh:(t++u).heard t.size:=⟨0,by simp[Trace.g?,hlast],by rw[deaf_old (uN _)];exact X.deaf⟩;have nt:∀op∈u,op.act.touch? = none:=fun op hop=>by
  rw[eu]at hop;simp only[nP,uO]at hop;subst hop;rfl
 have oldt:∀ {i:Nat} {a:Touch},touchAt (t++u) i=some a->i<t.size/\touchAt t i=some a:=fun ha=>by
  rcases yD ha with h | ⟨op,h1,h2,_⟩
  ·exact h
  ·rw[nt op h1]at h2;cases h2
 have joined:∀(i k:Nat),t.g? i=some k->N0<k->t.counts i->Knows (t++u) 0 i:=by
  intro i k hg hk hcn;obtain⟨op,ho,rfl⟩:=vW.1 hg;have hle:=X.C.gsb i op ho;have hx:T[op.g-1]? = some T[op.g-1]:=vQ (by omega);obtain⟨r,hr⟩:=X.I.rel (op.g-1) _ hx (by omega) (by rw[hall _ _ hx];omega);rw[show op.g-1+1=op.g by omega]at hr;have hrt:r<t.size:=lt_of_act? hr.act;have hile:i<=r:=Nat.le_of_not_lt fun hlt=>hr.after i hlt hg hcn
  have edge:HappensBefore (t++u) r t.size:=.single (.inr ⟨.marked (a:=stA Φ.Wg) hrt (.inr (by rw[act?_old hrt];exact hr.act)) hq (fun q _ _=>X2.C.norel q _),(heard_old hrt).2 hr.heard,hqh⟩);have hit:i<t.size:=lt_size_of_getElem? ho;refine⟨t.size,_,hlast,rfl,.inr ?_⟩;rcases mK i r with hlt | hge
  ·exact .trans (.single (.inl ⟨hlt,op.g,by rw[g?_old hit];exact hg,by rw[g?_old hrt];exact hr.g⟩)) edge
  ·obtain rfl:i=r:=by omega
   exact edge
 have countP:∀ {i:Nat} {a:Touch},touchAt t i=some a->a.kind=.plain->t.counts i:=fun {i a} ha hk=>by
  obtain⟨ad,e,_⟩:=X.C.lo i a ha;exact⟨a,ha,by rw[e];rfl,.inl (by rw[hk];simp)⟩
 have hC:w.heap[Φ.C]? = some (.cells Φ.vals Φ.ety):=by
  obtain⟨cs,hc1,hc2⟩:=X.I.pay;rw[hc1];congr 2;refine Array.ext (by simp[Ph.vals,hc2]) fun i h1 h2=>?_
  have hl:=X.I.len;have hx:T[N0+i]? = some T[N0+i]:=vQ (by omega);have:=X.I.vals (N0+i) _ hx (by omega) (by rw[hall _ _ hx];omega);rw[show N0+i-N0=i by omega]at this;simp only[World.cell?,hc1]at this;simp only[Ph.vals,List.getElem_toArray,List.getElem_map,List.getElem_range];simp[h1]at this;exact this
 refine⟨⟨X2.C.env,fun b o hb=>?_,fun b hb=>?_,X2.C.hasW,fun i x hx b _ hb=>?_,fun i q x y hx _ _ b _ hb=>?_,X2.C.nr,X2.C.gsb,X2.C.lo,X2.C.norel,fun i a ad h1 h2 h3=>.inl ?_,fun k x hx i a ad _ _ hb=>?_,fun i k hg hk _ hcn=>?_⟩,X2.I.gsz,fun k x hx=>?_,X2.g0,X2.deaf⟩
 ·by_cases e:b=Φ.C
  ·subst e;rw[upd_same']at hb;cases hb;exact hC
  ·rw[upd_ne' e]at hb;exact X.C.has b o hb
 ·by_cases e:b=Φ.C
  ·subst e;rw[upd_same'];simp
  ·rw[upd_ne' e];exact X.C.inv b (hsub b hb)
 ·rw[(emps hx).1]at hb;exact absurd rfl hb
 ·rw[(emps hx).1]at hb;exact absurd rfl hb
 ·obtain⟨hit,h4⟩:=oldt h1;by_cases e:ad.block=Φ.C
  ·rcases X.I.cC i a ad h4 h2 e with h5 | ⟨h5,q,h6,h7⟩
   ·exact j6 h5
   ·exact joined i q h7 h6 (countP h4 h5)
  ·rw[upd_ne' e]at h3;rcases X.C.kn i a ad h4 h2 h3 with h5 | ⟨_,_,h5,q,h6,h7⟩
   ·exact j6 h5
   ·exact joined i q h7 h6 (countP h4 h5)
 ·rw[(emps hx).1]at hb;exact absurd rfl hb
 ·rcases g?_cases hg with⟨hit,h1⟩ | ⟨op,h1,rfl,h2⟩
  ·have hcn':=(counts_old hit).1 hcn;by_cases hkN:N0<k
   ·exact joined i k h1 hkN hcn'
   ·exact j6 (X.C.ho i k h1 hk (by omega) hcn')
  ·obtain⟨x,hx,_⟩:=hcn;simp[Trace.act?,h2,nt op h1]at hx
 ·obtain⟨h1,g,hg,hs⟩:=emps hx;refine⟨h1,hall k x hx,g,Dv hg hs.status,?_⟩;have:Deaf (t++u) (k+1)=Deaf t (k+1):=by rw[<-hu];exact Deaf_other t (by omega) _ g_of_ofEvents
  rw[this];exact hs
end
end Go.Eng
namespace Go.Eng
open Go Go.Conc
open Go.ConcN hiding upd upd_same upd_ne
open Go.ConcR (KK wgBlock WgAt stA smA rd wr g_of_ofEvents Bk DC0 bk_of_mute ofEvent_loc_mark ofEvent_cell ofEvent_mk deafBehind_cons deafBehind_one)
variable {fr:Frame}{v:Value}
section
variable {P:Program}{S:Shared}{h h' : Heap}{T:List WS}{gs:Array Goroutine}{w0 w w' : World}{t:Trace}{es:Array Event}{sl:Option (Nat × Nat)}{g0 g1:Goroutine}
  {Good:Machine -> Outcome -> World -> Trace -> Prop}
theorem zb8(hbig:∀fr cs h Q,S.big fr cs h Q->Phase P S fr cs h Q){Post:Frame->List Frame->Heap->Prop}{cs:List Frame}(H:Safe P S Post fr cs h):∀(T:List WS) (gs:Array Goroutine) (w:World) (t:Trace) (sl:Option (Nat×Nat)),
  Out P S w0 h (gor fr cs) T gs w t ->
  (∀fr' cs' h' T' gs' w' t' sl',Post fr' cs' h'->(∀b,S b->h' b=h b)->Out P S w0 h' (gor fr' cs') T' gs' w' t'->Runs P Good (crowd gs' w' sl') t')->Runs P Good (crowd gs w sl) t:=by
 induction H with
 | done p=>exact fun T gs w t sl X K=>K _ _ _ T gs w t sl p (fun _ _=>rfl) X
 | step fr' cs' w' es h' hs _ ih=>
  intro T gs w t sl X K;refine X.AU rfl (fun T' gs w t sl X=>?_) sl;obtain⟨h1,h2,h3⟩:=hs w true X.C.has;exact .inl ⟨_,_,DS X.g0 h1,ih w true X.C.has T' _ _ _ sl (X.UF h2 h3 _ _) fun fr2 cs2 h2' T2 gs2 w2 t2 sl2 p hro=>K fr2 cs2 h2' T2 gs2 w2 t2 sl2 p fun b hb=>(hro b hb).trans (h2.ro b hb)⟩
 | @big fr cs h h0 f Q e ha hb _ ih=>
  subst e;intro T gs w t sl X K;obtain⟨Φ,zs,hΦ,hsp⟩:=hbig _ _ _ _ hb;have har:Apart (Φ.rest h0) f:=Ps (fun b o hb=>by
   unfold Ph.rest at hb
   split at hb
   ·cases hb
   ·exact hb) ha
  refine zcI hΦ.nobig hΦ.small Φ.n 0 fr cs _ T gs w t sl (by omega) (Sp.frame Φ.n har hsp) (X.enter hΦ ha) fun h' g' T' gs' w' t' sl' hro hst X=>?_
  have s1:BN T.length Φ.n (MO True 0):=MO.shut (n:=Φ.n) (by omega) hΦ.small;refine X.stop s1 (hst w' X.J).1 sl' fun T'' gs w t sl _ X=>?_
  obtain⟨_,fr',cs',hs,h1,hQ,ha1,rfl⟩:=hst w X.J;have fC:f Φ.C=none:=by
   cases e:f Φ.C with
   | none=>rfl
   | some o=>have:=ha Φ.C (by rw[e];simp);rw[hΦ.arr]at this;cases this
  have eh:upd (plus h1 f) Φ.C (.cells Φ.vals Φ.ety)=plus (upd h1 Φ.C (.cells Φ.vals Φ.ety)) f:=by
   funext b;by_cases e:b=Φ.C
   ·subst e;simp[upd,plus]
   ·simp[upd,plus,e]
  have agr:∀b,S b->upd h1 Φ.C (.cells Φ.vals Φ.ety) b=h0 b:=fun b hb=>by
   have hn:=hΦ.held b (hΦ.sub b hb);have hr:Φ.rest h0 b=h0 b/\b≠Φ.C:=by
    unfold Ph.rest at hn ⊢;split at hn
    ·exact absurd rfl hn
    ·rename_i hc;rw[vM hc];exact⟨rfl,fun e=>hc (.inr e)⟩
   have h2:=hro b (hΦ.sub b hb);have h0n:h0 b≠none:=by rw[<-hr.1];exact hn
   have fb:f b=none:=by
    cases e:f b with
    | none=>rfl
    | some o=>exact absurd (ha b (by rw[e];simp)) h0n
   rw[upd_ne' hr.2];have e1:plus h1 f b=h1 b:=by unfold plus;cases h1 b <;> simp[fb]
   have e2:plus (Φ.rest h0) f b=Φ.rest h0 b:=by unfold plus;cases Φ.rest h0 b <;> simp[fb]
   rw[<-e1,h2,e2,hr.1]
  have ap2:Apart (upd h1 Φ.C (.cells Φ.vals Φ.ety)) f:=fun b hb=>by
   by_cases e:b=Φ.C
   ·subst e;exact absurd fC hb
   ·rw[upd_ne' e];exact ha1 b hb
  have X2:=X.join (S:=S) (g1:=gor fr' cs') hΦ.sub g'.frame.fn g'.frame.place;rw[eh]at X2;refine⟨_,w,_,hs,ih fr' cs' _ hQ ap2 agr T'' _ w _ sl X2 fun fr2 cs2 h2' T2 gs2 w2 t2 sl2 p hro2=>K fr2 cs2 h2' T2 gs2 w2 t2 sl2 p fun b hb=>?_⟩;rw[hro2 b hb];unfold plus;rw[agr b hb]
theorem Yz{o:Outcome}(h0:gs[0]? = some g0)(hs:stepG P true g0 w=.ended o w' es):runT P (crowd gs w sl) 0=(.ended o w',MemOp.ofEvents 0 g0.frame.fn g0.frame.place es):=by
 obtain⟨hlt,rfl⟩:=uS.1 h0;have hsw:=swapAt_of_lt hlt { (default:Goroutine)with status:=.finished };show runT P { world:=w,gs:=gs,rest:={ timers:=#[],alone:=none,slice:=sl } } 0=_;unfold runT;simp only[hsw,beq_self_eq_true,hs,GStep.es]
theorem Leaves.ended(H:Leaves P S fr h v)(hin:P.inits.idxOf? fr.fn=none)(hw:Has w h):∃es,stepG P true (gor fr []) w=.ended (.done v) w es/\∀e∈es,AO S h w w e:=by
 obtain⟨hm,hd,hk,fn,hf,hr⟩:=H;obtain⟨n,w',es,e1,⟨rfl,rfl⟩,_,e3⟩:=Ns _ (hr w hw) #[];refine⟨seen P fr.fn (if false then #[]else es),?_,Q7 false e3⟩;rw[Sem.runT_eq]at e1;obtain⟨e1,e2⟩:=gC e1;simp[stepG,gor,hm,unwind,hd,hf,e1,e2,GStep.after,doReturn,hk,hin]
theorem WI(w:World)(s:Nat->Prop)(hs:∀b,s b->b<w.heap.size)(P:Program)(g:Goroutine):Out P (yb P s) w (qj w) g [] #[g] w #[]:=by
 have nt:∀(i:Nat) (a:Touch),touchAt (#[]:Trace) i=some a->False:=fun i a h=>by simp[touchAt,Trace.act?]at h
 refine⟨⟨⟨rfl,rfl,rfl⟩,OS w,fun b hb hn=>?_,fun i x hx=>by simp at hx,fun i x hx=>by simp at hx,fun i j x y hx=>by simp at hx,fun said=>noRace_nil said,fun i op h=>by simp at h,fun i a h=>(nt i a h).elim,fun i a h=>by simp[Trace.act?]at h,fun i a ad h=>(nt i a h).elim,fun k x hx=>by simp at hx,fun i k h=>by simp[Trace.g?]at h⟩,rfl,fun k x hx=>by simp at hx,rfl,rfl⟩;have:w.heap[b]? = none:=hn;rw[Array.getElem?_eq_none_iff]at this;have:=hs b hb;omega
theorem Y0{f:FuncId}{args:Array Value}(H:zb P (yb P fun b=>b<w.heap.size) f args (qj w) (fun u _=>u=v))(hin:P.inits.idxOf? f=none)(hb:((P.funcs[f]?).any fun fn=>fn.body.isSome&&fn.name != "runtime.NumGoroutine")=true) :
  ∃N last o w' t',runNT P (N+1) (solo (G (Frame.enter P f args .normal) []) w) #[]=(.ended o w',t')/\runN P N (solo (G (Frame.enter P f args .normal) []) w)=.next last/\Go.step P last=.ended o w' /\
   Conc.Good P (fun u w'=>u=v/\Go.RowKit.Below w.heap.size w w') last o w' t':=by
 replace H:=H.enters hb (OS w);have key:Runs P (fun m o w' t'=>Conc.Good P (fun u w'=>u=v/\Go.RowKit.Below w.heap.size w w') m o w' t') (crowd #[gor (Frame.enter P f args .normal) []] w none) #[]:=by
  refine zb8 (w0:=w) (fun _ _ _ _ h=>h) (H.2 []) [] #[gor (Frame.enter P f args .normal) []] w #[] none (WI w _ (fun _ h=>h) P _) ?_;rintro fr cs h' T gs w' t sl ⟨rfl,hfn,u,h1,rfl,_,_,hl⟩ hro X;refine X.AU rfl (fun T gs w' t sl X=>.inr ?_) sl;obtain⟨es,e1,e2⟩:=hl.ended (by rw[hfn];exact hin) X.C.has;refine⟨_,w',_,Yz X.g0 e1,fun w2 sl2=>?_⟩;have X2:=X.UF (g1:=gor fr []) (Kept.refl X.C.has) e2 (gor fr []).frame.fn (gor fr []).frame.place;refine⟨u,rfl,⟨rfl,X.C.env.1,X.C.env.2.1,X.C.env.2.2,?_,fun b hb=>?_⟩,X2.C.nr,fun i g hg hne hc=>?_,⟨fun g hg=>?_,rfl⟩,fun i g hg hne=>?_⟩
  ·rcases Nat.eq_zero_or_pos w.heap.size with h0 | h0
   ·omega
   ·have hb:w.heap.size-1<w.heap.size:=by omega
    have h3:=hro (w.heap.size-1) hb;have h4:qj w (w.heap.size-1)=some w.heap[w.heap.size-1]:=by simp[qj,hb]
    rw[h4]at h3;have:=X.C.has.lt h3;omega
  ·have h3:=hro b hb;have h4:qj w b=some w.heap[b]:=by simp[qj,hb]
   rw[h4]at h3;rw[X.C.has b _ h3];simp[hb]
  ·obtain⟨op,ho,rfl⟩:=vW.1 hg;obtain⟨q,z,hq,hz,hbf⟩:=X2.C.ho i op.g hg hne (X2.C.gsb i op ho) hc;refine⟨q,by simp[Trace.g?,hq,hz],?_⟩;rcases hbf with rfl | hb
   ·rw[ho]at hq;cases hq;exact absurd hz hne
   ·exact hb
  ·obtain⟨k,hk⟩:=mF hg;rw[mO,Array.getElem?_toList]at hk;have hkl:k<T.length:=by
    have:=(uS.1 hk).1;have h3:gs.size=T.length+1:=X.gsz;have h4:(crowd gs w2 sl2).gs.size=gs.size:=rfl;omega
   obtain⟨_,_,o,ho,hq⟩:=X.sit k _ (vQ hkl);have hk':gs[k+1]? = some g:=by rw[fR];exact hk
   rw[hk']at ho;cases ho
   exact⟨_,hq.leaves⟩
  ·have hk':gs[i]? = some g:=hg;obtain⟨k,rfl⟩:∃k,i=k+1:=⟨i-1,by omega⟩;have hkl:k<T.length:=by
    have:=(uS.1 hk').1;have h3:gs.size=T.length+1:=X.gsz;omega
   obtain⟨_,_,o,ho,hq⟩:=X.sit k _ (vQ hkl);rw[hk']at ho;cases ho
   refine⟨T[k].fuel,?_⟩;have e:(t++MemOp.ofEvents 0 (gor fr []).frame.fn (gor fr []).frame.place es).deaf (k+1) (t++MemOp.ofEvents 0 (gor fr []).frame.fn (gor fr []).frame.place es).size=Deaf t (k+1):=Deaf_other t (by omega) _ g_of_ofEvents;show g.endsWith P w2 T[k].fuel ((t++MemOp.ofEvents 0 (gor fr []).frame.fn (gor fr []).frame.place es).deaf (k+1) (t++MemOp.ofEvents 0 (gor fr []).frame.fn (gor fr []).frame.place es).size)=some 0;rw[e];exact hq.hears w2
 exact key.run
end
end Go.Eng
end
