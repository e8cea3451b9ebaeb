import Derived.IntWalk
import Derived.Test.YtpodkihpnjhamaaGreatDoorChecked
import Derived.KernelRfl
import Derived.OpenVars
import Derived.LaidLaws
import Derived.LaidHandle
import Derived.ChangeVars
import Derived.OpenShut
import Derived.Test.YtpodkihpnjhamaaGreatDoorCb2
import Derived.Test.YtpodkihpnjhamaaGreatDoorCb3
import Derived.Test.YtpodkihpnjhamaaGreatDoorCb4
import Derived.Test.YtpodkihpnjhamaaGreatDoorCb5
import Derived.Test.YtpodkihpnjhamaaGreatDoorCb6
set_option maxRecDepth 100000
set_option maxHeartbeats 8000000
set_option linter.unusedVariables false
set_option linter.unusedSimpArgs false
set_option linter.unusedSectionVars false
namespace Go.Proofs.YtpodkihpnjhamaaGreatDoor
open Go Go.Eng Go.IntWalk
section
variable {h:qaA}{S:Shared}
section
theorem Tf(hi:qaC S h)(a:Option Addr)(c:Nat)(xs:List Int)(i:Nat)(hx:zk h .u8 a xs)(hl:xs.length<=1048576)(hlt:i/8<xs.length:=by omega) :
  zb oPP S Bw #[.slice a xs.length c,.int .i64 i] h (fun v h'=>v=.int .u64 (yN xs i)/\h'=h):=by
 refine NK (vs:=[.slice a xs.length c,.int .i64 i]) ⟨rfl,rfl,trivial⟩ hi ?_;simp only[I6,Tr.wp,Ex.ev,coerce,toInt_int,za,zd,zi,ze,zj,yg,zB,arith,Cst.val,SV.den,zw,zr,vA,vB,vO,vJ,vI,uA];have w1:IntKind.i64.wrap ((i:Int).tdiv 8)=((i/8:Nat):Int):=by rw[uL (by omega)];exact i64_in _ (by omega)
 have w2:(i:Int).tmod 8=((i%8:Nat):Int):=by rw[uG (by omega)];omega
 have w3:IntKind.u64.wrap ((i%8:Nat):Int)=((i%8:Nat):Int):=u64_in _ (by omega);rw[w1,w2,w3];obtain⟨g1,g2⟩:=hx.cell (vQ hlt);refine⟨by simpa using g2,by omega,by omega,xs[i/8],by simp only[vV,pY,add_add,uI];exact g1,by simp;omega,?_⟩;have e:min ((i%8:Nat):Int).toNat IntKind.u8.bits=i%8:=by
  have:IntKind.u8.bits=8:=rfl;rw[this];omega
 rw[e];congr 1;have e2:xs.getD (i/8) 0=xs[i/8]:=by simp[List.getD,vQ hlt]
 rw[yN,e2,IntKind.wrap_u64,uG (by omega)];omega
end
variable {i:Nat}{xs:List Int}{x:Int}
section
theorem XP(h:i<=62):((2^i:Nat):Int)<=4611686018427387904:=by
 have:2^i<=2^62:=uX (by omega) h;have e:(2:Nat)^62=4611686018427387904:=by decide
 omega
theorem Ra(i:Nat):0<=((2^i:Nat):Int):=Int.natCast_nonneg _
theorem Aq(hi:qaC S h)(n:Int)(hn0:0<=n:=by omega)(hn:n<=62:=by omega) :
  zb oPP S xz #[.int .i64 n] h (fun v h'=>v=.int .i64 ((2^n.toNat:Nat):Int)/\h'=h):=by
 refine NO (vs:=[.int .i64 n]) ⟨rfl,trivial⟩ hi ?_;simp only[I8,Tr.wp,Ex.ev,coerce,toInt_int,za,zB,arith,Cst.val,SV.den,zY,vA,vB,vC,vO,vU,vD,vE,vJ,vI];refine⟨fun us h'=>∃i:Nat,us=[.int .i64 ((2^i:Nat):Int),.int .i64 i]/\(i:Int)<=n/\h'=h,fun us _=>n.toNat-(toInt (us.getD 1 undef)).toNat,⟨0,rfl,hn0,rfl⟩,?_⟩;rintro x y h' ⟨i,hx,hi2,rfl⟩;obtain⟨rfl,rfl⟩:x=((2^i:Nat):Int)/\y=i:=by simpa using hx
 simp only[toInt_int,vA,vB,uA];refine⟨fun hlt=>?_,fun hge=>?_⟩
 ·have p1:=XP (i:=i+1) (by omega);have p0:=Ra (i+1);have e1:2*((2^i:Nat):Int)=((2^(i+1):Nat):Int):=by rw[gW];omega
  have w1:IntKind.i64.wrap (2*((2^i:Nat):Int))=((2^(i+1):Nat):Int):=by rw[e1];exact i64_in _ (by omega)
  have w2:IntKind.i64.wrap ((i:Int)+1)=((i+1:Nat):Int):=z9;rw[w1,w2];refine⟨⟨i+1,rfl,by omega⟩,by omega⟩
 ·obtain rfl:n=i:=by omega
  simp
def jD(x:Int):Int:=if 0<x then((2^(15-x).toNat:Nat):Int)else 0
def kr(xs:List Int):Int:=(xs.map jD).sum
def cn(xs:List Int):Int:=(xs.map fun x=>if 0<x then 1 else 0).sum
def hok(xs:List Int):Prop:=∀x∈xs,0<=x/\x<=15
instance (xs:List Int):Decidable (hok xs):=by unfold hok;infer_instance
def zu(xs:List Int):Int:=
 if xs.length>320 then 0 else if ¬hok xs then 0 else if cn xs=0 then 5 else if kr xs>32768 then 2 else if kr xs=32768 then 1 else if cn xs=1/\kr xs=16384 then 4 else 3
theorem GX(x:Int)(h:0<=x):0<=jD x/\jD x<=32768:=by
 unfold jD;split
 ·have h1:2^(15-x).toNat<=2^15:=uX (by omega) (by omega);have e:(2:Nat)^15=32768:=by decide
  have h2:=Ra (15-x).toNat;exact⟨h2,by rw[e]at h1;exact Int.ofNat_le.2 h1⟩
 ·omega
theorem Ux:∀(xs:List Int),hok xs->0<=kr xs/\kr xs<=32768*xs.length
 | [],_=>by simp[kr]
 | x::r,h=>by
  have h1:=GX x (h x (by simp)).1;have h2:=Ux r fun y hy=>h y (by simp[hy])
  simp only[kr,vD,fE,uB]at h2 ⊢;omega
theorem Qm:∀(xs:List Int),0<=cn xs/\cn xs<=xs.length
 | []=>by simp[cn]
 | x::r=>by
  have h2:=Qm r;simp only[cn,vD,fE,uB]at h2 ⊢;split <;> omega
theorem IU(hi:i<xs.length):xs.take (i+1)=xs.take i++[xs[i]]:=by
 rw[mU,vQ hi];rfl
theorem DJ(hi:i<xs.length):kr (xs.take (i+1))=kr (xs.take i)+jD xs[i]:=by
 unfold kr;rw[IU hi,lI,List.sum_append];simp
theorem DK(hi:i<xs.length):cn (xs.take (i+1))=cn (xs.take i)+(if 0<xs[i]then 1 else 0):=by
 unfold cn;rw[IU hi,lI,List.sum_append];simp
theorem Lg(hi:i<xs.length)(h:hok (xs.take i))(hx:0<=xs[i]/\xs[i]<=15):hok (xs.take (i+1)):=by
 rw[IU hi];intro x hm;rcases pO.1 hm with h1 | h1
 ·exact h x h1
 ·simp at h1;subst h1;exact hx
theorem NX(hi:i<xs.length)(hx:¬(0<=xs[i]/\xs[i]<=15)):¬hok xs:=fun h=>hx (h _ (pQ hi))
theorem NY:∀ {xs:List Int},cn xs=0->kr xs=0
 | [],_=>rfl
 | x::r,h=>by
  have h2:=Qm r;simp only[cn,vD,fE]at h h2;split at h
  ·omega
  ·rename_i hx;have ih:kr r=0:=NY (by simp only[cn];omega);simp only[kr,vD,fE]at ih ⊢;rw[ih];simp[jD,hx]
theorem XQ(h0:x>0)(h1:x<=15):IntKind.i64.wrap (1*2^min (15-x).toNat IntKind.i64.bits)=jD x:=by
 have e:min (15-x).toNat IntKind.i64.bits=(15-x).toNat:=Nat.min_eq_left (by show _<=64;omega);have hk:=GX x (by omega);have e2:(1:Int)*2^(15-x).toNat=jD x:=by simp[jD,h0]
 rw[e,e2];exact i64_in _ (by omega)
theorem VO(h0:1<=x)(h1:x<=15):jD x=16384<->x=1:=by
 have:x=1\/x=2\/x=3\/x=4\/x=5\/x=6\/x=7\/x=8\/x=9\/x=10\/x=11\/x=12\/x=13\/x=14\/x=15:=by omega
 rcases this with rfl | rfl | rfl | rfl | rfl | rfl | rfl | rfl | rfl | rfl | rfl | rfl | rfl | rfl | rfl <;> decide
theorem wO(hi:qaC S h)(a:Option Addr)(c:Nat)(xs:List Int)(hx:zk h .i64 a xs) :
  zb oPP S j8 #[.slice a xs.length c] h (fun v h'=>v=.int .i64 (zu xs)/\h'=h):=by
 refine JX (vs:=[.slice a xs.length c]) ⟨rfl,trivial⟩ hi ?_;simp only[EX,Tr.wp,Ex.ev,coerce,toInt_int,za,zd,zi,ze,zj,yg,xu,j7,zB,arith,Cst.val,SV.den,zw,zY,zr,vA,vB,vC,vT,vO,vU,vD,vE,vJ,vI,uA];refine⟨fun hbig=>?_,fun hsm=>?_⟩
 ·have:xs.length>320:=by omega
  simp[zu,this]
 have hlen:xs.length<=320:=by omega
 refine⟨fun us h'=>∃(i:Nat) (l:Int),us=[.int .i64 (kr (xs.take i)),.int .i64 (cn (xs.take i)),.int .i64 l,.int .i64 i]/\i<=xs.length/\h'=h/\hok (xs.take i)/\(cn (xs.take i)=1->1<=l/\l<=15/\kr (xs.take i)=jD l),
  fun us _=>xs.length-(toInt (us.getD 3 undef)).toNat,⟨0,0,rfl,by omega,rfl,by simp[hok],by simp[cn]⟩,?_⟩
 rintro x y z u h' ⟨i,l,hx1,hi2,rfl,hk,hone⟩;obtain⟨rfl,rfl,rfl,rfl⟩:x=kr (xs.take i)/\y=cn (xs.take i)/\z=l/\u=i:=by simpa using hx1
 simp only[toInt_int,vA,vB,uA,pL];have b1:=Ux _ hk;have b2:=Qm (xs.take i);have b3:(xs.take i).length<=320:=by rw[pW];omega
 refine⟨fun hlt=>?_,fun hge=>?_⟩
 ·have hi3:i<xs.length:=by omega
  obtain⟨g1,g2⟩:=hx.cell (vQ hi3);refine⟨by simpa using g2,by omega,by omega,xs[i],by simpa[add_add]using g1,fun hbad=>?_,fun hgood=>?_⟩
  ·have:¬hok xs:=NX hi3 (by simp at hbad;omega);simp[zu,this]
  ·have hr:0<=xs[i]/\xs[i]<=15:=by simp at hgood;omega
   have w2:IntKind.i64.wrap ((i:Int)+1)=((i+1:Nat):Int):=z9;have w4:IntKind.i64.wrap (15-xs[i])=15-xs[i]:=i64_in _ (by omega);have hk2:=Lg hi3 hk hr;have kt:=GX xs[i] hr.1;rw[w2,w4];refine⟨fun hpos=>⟨by omega,fun _=>⟨⟨i+1,xs[i],?_,by omega,hk2,fun h1=>?_⟩,by omega⟩⟩,fun hneg _=>⟨⟨i+1,z,?_,by omega,hk2,fun h1=>?_⟩,by omega⟩⟩
   ·rw[XQ hpos hr.2,DJ hi3,DK hi3,vP (by omega),i64_in (kr _+_) (by omega),i64_in (cn _+1) (by omega)]
   ·rw[DK hi3,vP (by omega)]at h1;rw[DJ hi3,NY (show cn (xs.take i)=0 by omega)];omega
   ·rw[DJ hi3,DK hi3,vM hneg,show jD xs[i]=0 from vM hneg,fS,fS]
   ·rw[DK hi3,vM hneg,fS]at h1;rw[DJ hi3,show jD xs[i]=0 from vM hneg,fS];exact hone h1
 ·obtain rfl:i=xs.length:=by omega
  rw[nI]at *;have hl:¬xs.length>320:=by omega
  by_cases h1:cn xs=0
  ·simp[zu,hl,hk,h1]
  by_cases h2:kr xs>32768
  ·simp[zu,hl,hk,h1,h2]
  by_cases h3:kr xs=32768
  ·simp[zu,hl,hk,h1,h3]
  by_cases h4:cn xs=1
  ·obtain⟨o1,o2,o3⟩:=hone h4;have o4:=VO o1 o2;rw[<-o3]at o4;by_cases h5:z=1
   ·simp[zu,hl,hk,h4,h5,o4.2 h5]
   ·have:¬kr xs=16384:=fun e=>h5 (o4.1 e)
    simp[zu,hl,hk,h2,h3,h4,h5,this]
  ·simp[zu,hl,hk,h1,h2,h3,h4]
theorem BF(hi:qaC S h)(a:Option Addr)(c:Nat)(xs:List Int)(hx:zk h .i64 a xs) :
  zb oPP S kO #[.slice a xs.length c] h (fun v h'=>v=.int .i64 (zu xs)/\h'=h):=by
 refine JY (vs:=[.slice a xs.length c]) ⟨rfl,trivial⟩ hi ?_;simp only[EY,Tr.wp,z8,Ex.ev,coerce,toInt_int,za,zd,zi,ze,zj,yg,zB,arith,Cst.val,SV.den,zq,zK,zz,zm,zl,zw,zY,zr,vF,vG,vA,vB,vC,vT,vO,vU,vD,vE,vJ,vI,vK,uA,vY,vL];refine⟨fun hbig=>?_,fun hsm=>?_⟩
 ·have:xs.length>320:=by omega
  simp[zu,this]
 have hlen:xs.length<=320:=by omega
 refine⟨fun us h'=>∃(i:Nat),us=[.int .i64 (kr (xs.take i)),.int .i64 (cn (xs.take i)),.int .i64 i]/\i<=xs.length/\h'=h/\hok (xs.take i),
  fun us _=>xs.length-(toInt (us.getD 2 undef)).toNat,⟨0,rfl,by omega,rfl,by simp[hok]⟩,?_⟩
 rintro x y u h' ⟨i,hx1,hi2,rfl,hk⟩;obtain⟨rfl,rfl,rfl⟩:x=kr (xs.take i)/\y=cn (xs.take i)/\u=i:=by simpa using hx1
 simp only[toInt_int,vA,vB,uA,pL];have b1:=Ux _ hk;have b2:=Qm (xs.take i);have b3:(xs.take i).length<=320:=by rw[pW];omega
 refine⟨fun hlt=>?_,fun hge=>?_⟩
 ·have hi3:i<xs.length:=by omega
  obtain⟨g1,g2⟩:=hx.cell (vQ hi3);have hnn:(!a.isNone)=true:=by simpa using g2
  have g3:zg h' (((a.getD default).add ((i:Int).toNat*1)).add 0)=some (Value.int IntKind.i64 xs[i]):=by simpa[add_add]using g1
  have w2:IntKind.i64.wrap ((i:Int)+1)=((i+1:Nat):Int):=z9;rw[w2];refine⟨hnn,by omega,hlt,xs[i],g3,fun hpos=>⟨hnn,by omega,hlt,xs[i],g3,fun _=>⟨fun hbig=>?_,fun hsm2=>⟨hnn,by omega,hlt,xs[i],g3,fun hp=>⟨hnn,by omega,hlt,xs[i],g3,?_⟩,fun hz _=>⟨⟨i+1,?_,by omega,?_⟩,by omega⟩⟩⟩⟩,fun hneg _=>⟨fun _=>?_,fun h=>by cases h⟩⟩
  ·have:¬hok xs:=NX hi3 (by omega);simp[zu,this]
  ·have w4:IntKind.i64.wrap (15-xs[i])=15-xs[i]:=i64_in _ (by omega);rw[w4];refine(Aq hi (15-xs[i])).mono ?_;rintro _ _ ⟨rfl,rfl⟩;have kt:=GX xs[i] (by omega);have ke:((2^(15-xs[i]).toNat:Nat):Int)=jD xs[i]:=(vP hp).symm;refine⟨_,rfl,fun _=>⟨⟨i+1,?_,by omega,rfl,Lg hi3 hk ⟨by omega,by omega⟩⟩,by omega⟩⟩;rw[ke,DJ hi3,DK hi3,vP (by omega),i64_in (kr _+_) (by omega),i64_in (cn _+1) (by omega)]
  ·rw[DJ hi3,DK hi3,vM hz,show jD xs[i]=0 from vM hz,fS,fS]
  ·exact Lg hi3 hk ⟨by simp at hpos;omega,by omega⟩
  ·have:¬hok xs:=NX hi3 (by simp at hneg;omega);simp[zu,this]
 ·obtain rfl:i=xs.length:=by omega
  rw[nI]at *;have hl:¬xs.length>320:=by omega
  have p15:((2^(15:Int).toNat:Nat):Int)=32768:=by decide
  have p14:((2^(14:Int).toNat:Nat):Int)=16384:=by decide
  refine⟨fun h1=>?_,fun h1=>?_⟩
  ·have h1:cn xs=0:=by simpa using h1
   simp[zu,hl,hk,h1]
  have h1:¬cn xs=0:=by simpa using h1
  refine(Aq hi 15).mono ?_;rintro _ _ ⟨rfl,rfl⟩;rw[p15];refine⟨_,rfl,fun h2=>?_,fun h2=>?_⟩
  ·simp[zu,hl,hk,h1,h2]
  refine(Aq hi 15).mono ?_;rintro _ _ ⟨rfl,rfl⟩;rw[p15];refine⟨_,rfl,fun h3=>?_,fun h3=>⟨fun h4=>?_,fun h4 _=>⟨fun h=>h.elim,fun _=>?_⟩⟩⟩
  ·have h3:kr xs=32768:=by simpa using h3
   simp[zu,hl,hk,h1,h3]
  ·have h3:¬kr xs=32768:=by simpa using h3
   have h4:cn xs=1:=by simpa using h4
   refine(Aq hi 14).mono ?_;rintro _ _ ⟨rfl,rfl⟩;rw[p14];refine⟨_,rfl,fun _=>⟨fun h5=>?_,fun h5=>?_⟩⟩
   ·have h5:kr xs=16384:=by simpa using h5
    simp[zu,hl,hk,h4,h5]
   ·have h5:¬kr xs=16384:=by simpa using h5
    simp[zu,hl,hk,h2,h3,h4,h5]
  ·have h3:¬kr xs=32768:=by simpa using h3
   have h4:¬cn xs=1:=by simpa using h4
   simp[zu,hl,hk,h1,h2,h3,h4]
end
variable {v:Value}
section
variable {w : Value}
abbrev tI:Ty Value (List Int):=zbb .i64
def IV(xs:List Int):Prop:=xs.length<=1048576
end
section
variable {w : Value}{ps:List (Int × Int)}
abbrev CO:Ty Value (List (Int×Int)):=zcv
theorem XR(H:CO.R h v ps):∃a c,v=.slice a ps.length c:=by obtain⟨a,c,rfl,_⟩:=H;exact⟨a,c,rfl⟩
end
variable {m n:Nat}
section
def tl(x:Int):Nat->Int
 | 0=>0
 | i+1=>2*tl x i+(x/2^i)%2
theorem Qn:0<=tl x n/\tl x n<2^n:=by
 induction n with
 | zero=>simp[tl]
 | succ n ih=>
  rw[tl,show(2:Int)^(n+1)=2*2^n by rw[mA];omega];omega
theorem J5(h:n<=m:=by omega):(2:Int)^n<=2^m:=by
 rw[yG,yG];exact_mod_cast uX (by decide) h
theorem IW(x:Int)(i:Nat):x/2^i/2=x/2^(i+1):=by
 rw[mA,lZ (mB (nG (by decide)))]
theorem XS(hi:qaC S h)(x:Int)(n:Nat)(h0:0<=x)(h1:x<=1099511627776)(hn:n<=32) :
  zb oPP S Dk #[.int .i64 x,.int .i64 n] h (fun v h'=>v=.int .u64 (tl x n)/\h'=h):=by
 refine Mt (vs:=[.int .i64 x,.int .i64 n]) ⟨rfl,rfl,trivial⟩ hi ?_;simp only[Hy,Tr.wp,Ex.ev,coerce,toInt_int,za,zB,arith,Cst.val,SV.den,zY,vA,vB,vC,vO,vU,vD,vE,vJ,vI];refine⟨fun us h'=>∃i:Nat,us=[.int .i64 (x/2^i),.int .u64 (tl x i),.int .i64 i]/\i<=n/\h'=h,fun us _=>n-(toInt (us.getD 2 undef)).toNat,⟨0,by simp[tl],by omega,rfl⟩,?_⟩;rintro a b c h' ⟨i,hx1,hi2,rfl⟩;obtain⟨rfl,rfl,rfl⟩:a=x/2^i/\b=tl x i/\c=i:=by simpa using hx1
 refine⟨fun hlt=>?_,fun hge=>?_⟩
 ·have hp:(0:Int)<2^i:=nG (by decide);have hx0:0<=x/2^i:=fQ h0 (mB hp);have hxl:x/2^i<=x:=Int.ediv_le_self _ h0;have ht:=Qn (x:=x) (n:=i);have hp32:(2:Int)^i<=2^32:=J5;have e32:(2:Int)^32=4294967296:=by decide
  have w1:IntKind.i64.wrap ((x/2^i).tdiv 2)=x/2^(i+1):=by
   rw[i64_quo _ _ ⟨hx0,by omega,by omega⟩,IW]
  have w2:IntKind.u64.wrap (IntKind.u64.wrap (2*tl x i)+IntKind.u64.wrap ((x/2^i).tmod 2))=tl x (i+1):=by
   rw[uG hx0,u64_in (2*tl x i) (by omega),u64_in (x/2^i%2) (by omega),u64_in _ (by omega)];rfl
  have w3:IntKind.i64.wrap ((i:Int)+1)=((i+1:Nat):Int):=z9;rw[w1,w2,w3];exact⟨⟨i+1,rfl,by omega,rfl⟩,by simp only[vB,vA,toInt_int];omega⟩
 ·obtain rfl:i=n:=by omega
  exact⟨rfl,rfl⟩
theorem XT (hi : qaC S h) (x : Int) (n : Nat) (h0 : 0 <= x) (h1 : x <= 1099511627776) (hn : n <= 32) :
    zb oPP S Dj #[.int .u64 x, .int .i64 n] h (fun v h' => v = .int .u64 (tl x n) /\ h' = h) := by
  refine Ms (vs := [.int .u64 x, .int .i64 n]) ⟨rfl, rfl, trivial⟩ hi ?_;simp only [Hx, Tr.wp, Ex.ev, coerce, toInt_int, za, zB, arith, Cst.val, SV.den, zY, vA, vB, vC, vO, vU, vD, vE, vJ, vI];refine ⟨fun us h' => ∃ i : Nat, us = [.int .u64 (tl x i * 2 ^ (n - i)), .int .i64 i] /\ i <= n /\ h' = h, fun us _ => n - (toInt (us.getD 1 undef)).toNat, ⟨0, by simp [tl], by omega, rfl⟩, ?_⟩;rintro b c h' ⟨i, hx1, hi2, rfl⟩;obtain ⟨rfl, rfl⟩ : b = tl x i * 2 ^ (n - i) /\ c = i := by simpa using hx1
  refine ⟨fun hlt => ?_, fun hge => ?_⟩
  · obtain ⟨k, hk⟩ : ∃ k, n - i = k + 1 := ⟨n - i - 1, by omega⟩
    have hp : (0 : Int) < 2 ^ i := nG (by decide);have hpk : (0 : Int) < 2 ^ k := nG (by decide);have hx0 : 0 <= x / 2 ^ i := fQ h0 (mB hp);have ht := Qn (x := x) (n := i);have hb : 0 <= x / 2 ^ i % 2 /\ x / 2 ^ i % 2 <= 1 := by omega
    have m1 : min (i : Int).toNat IntKind.u64.bits = i := by
      have : IntKind.u64.bits = 64 := rfl;rw [this]; omega
    have w1 : IntKind.i64.wrap (IntKind.i64.wrap ((n : Int) - 1) - (i : Int)) = (k : Int) := by
      rw [i64_in ((n : Int) - 1) (by omega), i64_in _ (by omega)]; omega
    have m2 : min ((k : Int)).toNat IntKind.u64.bits = k := by
      have : IntKind.u64.bits = 64 := rfl;rw [this]; omega
    have e1 : Go.bits .and .u64 (x.fdiv (2 ^ i)) 1 = x / 2 ^ i % 2 := by
      rw [KT, pS _ (mB hp)]
    have hp32 : (2 : Int) ^ k <= 2 ^ 32 := J5;have e32 : (2 : Int) ^ 32 = 4294967296 := by decide
    have hbk : 0 <= x / 2 ^ i % 2 * 2 ^ k /\ x / 2 ^ i % 2 * 2 ^ k <= 2 ^ k := by
      rcases (show x / 2 ^ i % 2 = 0 \/ x / 2 ^ i % 2 = 1 by omega) with h | h <;> rw [h] <;> omega
    have e2 : IntKind.u64.wrap (x / 2 ^ i % 2 * 2 ^ k) = x / 2 ^ i % 2 * 2 ^ k := u64_in _ (by omega);have w3 : IntKind.i64.wrap ((i : Int) + 1) = ((i + 1 : Nat) : Int) := z9;have e3 : Go.bits .or .u64 (tl x i * 2 ^ (n - i)) (x / 2 ^ i % 2 * 2 ^ k) = tl x (i + 1) * 2 ^ (n - (i + 1)) := by
      have hk2 : n - (i + 1) = k := by omega
      rw [hk, hk2];obtain ⟨t, ht2⟩ := vZ ht.1;obtain ⟨β, hβ⟩ := vZ hb.1;have hβ1 : β <= 1 := by omega
      rw [ht2] at ht;have htl : t < 2 ^ i := by have := ht.2; rw [yG] at this; exact_mod_cast this
      have hsum : i + (k + 1) <= 32 := by omega
      have hA : t * 2 ^ (k + 1) < 2 ^ 32 := by
        calc t * 2 ^ (k + 1) < 2 ^ i * 2 ^ (k + 1) := Nat.mul_lt_mul_of_pos_right htl (fG _)
          _ = 2 ^ (i + (k + 1)) := (Nat.pow_add 2 i (k + 1)).symm
          _ <= 2 ^ 32 := uX (by decide) hsum
      have hB : β * 2 ^ k < 2 ^ (k + 1) := by
        have : β * 2 ^ k <= 1 * 2 ^ k := Nat.mul_le_mul_right _ hβ1;have hpp := fG k;rw [gW]; omega
      have hB2 : 2 ^ (k + 1) <= 2 ^ 32 := uX (by decide) (by omega);rw [tl, ht2, hβ, yG, yG];have c1 : ((t : Int) * ((2 ^ (k + 1) : Nat) : Int)) = ((t * 2 ^ (k + 1) : Nat) : Int) := by push_cast; rfl
      have c2 : ((β : Int) * ((2 ^ k : Nat) : Int)) = ((β * 2 ^ k : Nat) : Int) := by push_cast; rfl
      rw [c1, c2, Go.bits_or_u64_nat _ _ (by omega) (by omega)];have hor := gG hB t;rw [Nat.mul_comm t, <- hor];have : (2 * (t : Int) + β) * ((2 ^ k : Nat) : Int) = ((2 ^ (k + 1) * t + β * 2 ^ k : Nat) : Int) := by
        rw [gW]; push_cast; rw [Int.add_mul, mM (2 : Int), lX, mM (t : Int), mM (2 : Int)]
      rw [this]
    refine ⟨by omega, ?_⟩;rw [w1, m1, m2, e1, e2, w3, e3];exact ⟨by omega, ⟨i + 1, rfl, by omega, rfl⟩, by simp only [vB, vA, toInt_int]; omega⟩
  · obtain rfl : i = n := by omega
    rw [mS, Int.pow_zero, Int.mul_one];exact ⟨rfl, rfl⟩
end
variable {L c l:Nat}{a:Option Addr}
section
def cst(xs:List Int):Nat->Int
 | 0=>0
 | l+1=>2*(cst xs l+(if l=0 then 0 else((xs.count (l:Int):Nat):Int)))
def wB(xs:List Int)(j:Nat):Int×Int:=(xs.getD j 0,tl (cst xs (xs.getD j 0).toNat+(((xs.take j).count (xs.getD j 0):Nat):Int)) (xs.getD j 0).toNat)
def yM(xs:List Int):List (Int×Int):=(List.range xs.length).map fun j=>if 1<=xs.getD j 0 then wB xs j else(0,0)
def yH(xs:List Int):List (Int×Int):=if zu xs=0\/zu xs=2 then []else yM xs
theorem jH(h:¬(zu xs=0\/zu xs=2)):xs.length<=320/\hok xs:=by
 unfold zu at h;by_cases h1:xs.length>320
 ·simp[h1]at h
 ·by_cases h2:hok xs
  ·exact⟨by omega,h2⟩
  ·simp[h1,h2]at h
theorem zbg(hl:xs.length<=320)(l:Nat):0<=cst xs l/\cst xs l<=640*(2^l-1):=by
 induction l with
 | zero=>simp[cst]
 | succ l ih=>
  rw[cst,show(2:Int)^(l+1)=2*2^l by rw[mA];omega];have hc:(if l=0 then(0:Int)else((xs.count (l:Int):Nat):Int))<=320/\0<=(if l=0 then(0:Int)else((xs.count (l:Int):Nat):Int)):=by
   have:=List.count_le_length (a:=(l:Int)) (l:=xs);split <;> omega
  omega
theorem qD(hl:xs.length<=320)(h:l<=16:=by omega):0<=cst xs l/\cst xs l<=41943040:=by
 have h1:=zbg hl l;have h2:(2:Int)^l<=2^16:=J5 h;have e:(2:Int)^16=65536:=by decide
 omega
theorem Dq{a:Int}(hl:xs.length<=320):(xs.take i).count a<=320:=by
 have:=List.count_le_length (a:=a) (l:=xs.take i);rw[pW]at this;omega
theorem qS(hi:i<xs.length)(a:Int):(xs.take (i+1)).count a=(xs.take i).count a+(if xs[i]=a then 1 else 0):=by
 rw[mU,vQ hi,List.count_append];simp only[Option.toList_some,List.count_cons,List.count_nil,uP,uE]
def BG(xs:List Int)(i:Nat):List Int:=(List.range 17).map fun(l:Nat)=>if l=0 then 0 else(((xs.take i).count (l:Int):Nat):Int)
theorem E6:(BG xs i).length=17:=by simp[BG]
theorem E7(h:l<17):(BG xs i)[l]? = some (if l=0 then 0 else(((xs.take i).count (l:Int):Nat):Int)):=by simp[BG,h]
theorem VP:BG xs 0=List.replicate 17 0:=by
 apply nW;intro l;by_cases h:l<17
 ·rw[E7 h,nN,vP h];simp
 ·rw[pC (by rw[E6];omega),pC (by simp;omega)]
theorem VQ(hi:i<xs.length)(h0:xs[i]<=0):BG xs (i+1)=BG xs i:=by
 unfold BG;apply mH;intro l hl;by_cases h:l=0
 ·simp[h]
 ·rw[vM h,vM h,qS hi,vM (show ¬xs[i]=(l:Int) by omega)];simp
theorem VR(hi:i<xs.length){x:Nat}(hx:xs[i]=(x:Int))(h0:1<=x)(h1:x<17):BG xs (i+1)=(BG xs i).set x ((((xs.take i).count (x:Int):Nat):Int)+1):=by
 apply nW;intro l;rw[pU,E6];by_cases h:l<17
 ·rw[E7 h];by_cases he:x=l
  ·subst he;rw[vP rfl,vP h1,vM (by omega),qS hi,vP hx];push_cast;rfl
  ·rw[vM he,E7 h];by_cases hz:l=0
   ·simp[hz]
   ·rw[vM hz,vM hz,qS hi,vM (by omega)];simp
 ·rw[pC (by rw[E6];omega),vM (by omega),pC (by rw[E6];omega)]
def nxL(xs:List Int)(l:Nat):List Int:=(List.range 17).map fun j=>if j<l then cst xs j else 0
theorem Gk:(nxL xs i).length=17:=by simp[nxL]
theorem J6(h:l<17):(nxL xs i)[l]? = some (if l<i then cst xs l else 0):=by simp[nxL,h]
theorem ZP:nxL xs 1=List.replicate 17 0:=by
 apply nW;intro l;by_cases h:l<17
 ·rw[J6 h,nN,vP h];by_cases h2:l<1
  ·have:l=0:=by omega
   subst this;simp[cst]
  ·rw[vM h2]
 ·rw[pC (by rw[Gk];omega),pC (by simp;omega)]
theorem XU(h1:l<17):nxL xs (l+1)=(nxL xs l).set l (cst xs l):=by
 apply nW;intro j;rw[pU,Gk];by_cases h:j<17
 ·rw[J6 h];by_cases he:l=j
  ·subst he;rw[vP rfl,vP h1,vP (by omega)]
  ·rw[vM he,J6 h];by_cases hz:j<l
   ·rw[vP hz,vP (by omega)]
   ·rw[vM hz,vM (by omega)]
 ·rw[pC (by rw[Gk];omega),vM (by omega),pC (by rw[Gk];omega)]
def nxS(xs:List Int)(s:Nat):List Int:=(List.range 17).map fun j=>if j<16 then cst xs j+(if j=0 then 0 else(((xs.take s).count (j:Int):Nat):Int))else 0
theorem J7:(nxS xs i).length=17:=by simp[nxS]
theorem Tg(h:l<16)(h0:1<=l):(nxS xs i)[l]? = some (cst xs l+(((xs.take i).count (l:Int):Nat):Int)):=by
 have:l≠0:=by omega
 simp[nxS,h,this,show l<17 by omega]
theorem XV:nxL xs 16=nxS xs 0:=by
 unfold nxL nxS;apply mH;intro j hj;simp
theorem XW(hi:i<xs.length)(h0:xs[i]<=0):nxS xs (i+1)=nxS xs i:=by
 unfold nxS;apply mH;intro l hl;by_cases h:l=0
 ·simp[h]
 ·rw[qS hi,vM (show ¬xs[i]=(l:Int) by omega)];simp
theorem XX(hi:i<xs.length){x:Nat}(hx:xs[i]=(x:Int))(h0:1<=x)(h1:x<16):nxS xs (i+1)=(nxS xs i).set x (cst xs x+(((xs.take i).count (x:Int):Nat):Int)+1):=by
 apply nW;intro l;rw[pU,J7];by_cases h:l<17
 ·by_cases he:x=l
  ·subst he;rw[vP rfl,vP (by omega),Tg h1 h0,qS hi,vP hx];push_cast;rw[Int.add_assoc]
  ·rw[vM he];simp only[nxS,uY,mG h,pK];by_cases hz:l=0
   ·simp[hz]
   ·have hc:(xs.take (i+1)).count (l:Int)=(xs.take i).count (l:Int):=by rw[qS hi,vM (show ¬xs[i]=(l:Int) by omega)];rfl
    simp only[hc]
 ·rw[pC (by rw[J7];omega),vM (by omega),pC (by rw[J7];omega)]
def BH(xs:List Int)(s:Nat):List (Int×Int):=(List.range xs.length).map fun j=>if j<s/\1<=xs.getD j 0 then wB xs j else(0,0)
theorem E8{s:Nat}:(BH xs s).length=xs.length:=by simp[BH]
theorem VS:BH xs 0=List.replicate xs.length (0,0):=by
 apply nW;intro l;by_cases h:l<xs.length
 ·simp[BH,h]
 ·rw[pC (by rw[E8];omega),pC (by simp;omega)]
theorem VT:BH xs xs.length=yM xs:=by
 unfold BH yM;apply mH;intro j hj;have:j<xs.length:=by simpa using hj
 simp[this]
theorem qT(hi:i<xs.length):xs.getD i 0=xs[i]:=by simp[List.getD,vQ hi]
theorem VU(hi:i<xs.length)(h0:xs[i]<=0):BH xs (i+1)=BH xs i:=by
 unfold BH;apply mH;intro j hj;by_cases h:j=i
 ·subst h;rw[qT hi,vM (by omega),vM (by omega)]
 ·have:(j<i+1/\1<=xs.getD j 0)<->(j<i/\1<=xs.getD j 0):=by omega
  simp only[this]
theorem VV(hi:i<xs.length)(h0:1<=xs[i]):BH xs (i+1)=(BH xs i).set i (wB xs i):=by
 apply nW;intro j;rw[pU,E8];by_cases h:j<xs.length
 ·by_cases he:i=j
  ·subst he;rw[vP rfl,vP hi];simp only[BH,uY,mG h,pK,qT h];rw[vP ⟨by omega,h0⟩]
  ·rw[vM he];simp only[BH,uY,mG h,pK];have:(j<i+1/\1<=xs.getD j 0)<->(j<i/\1<=xs.getD j 0):=by omega
   simp only[this]
 ·rw[pC (by rw[E8];omega),vM (by omega),pC (by rw[E8];omega)]
def wJ(xs:List Int)(L i:Nat):List (Int×Int):=(List.range xs.length).map fun j=>if(1<=xs.getD j 0/\xs.getD j 0<L)\/(xs.getD j 0=L/\j<i)then wB xs j else(0,0)
theorem E9:(wJ xs L i).length=xs.length:=by simp[wJ]
theorem VW:wJ xs 1 0=List.replicate xs.length (0,0):=by
 apply nW;intro l;by_cases h:l<xs.length
 ·simp only[wJ,uY,mG h,pK,nN,vP h];rw[vM (by omega)]
 ·rw[pC (by rw[E9];omega),pC (by simp;omega)]
theorem VX(h:1<=L):wJ xs L xs.length=wJ xs (L+1) 0:=by
 unfold wJ;apply mH;intro j hj;have:j<xs.length:=by simpa using hj
 have:((1<=xs.getD j 0/\xs.getD j 0<L)\/(xs.getD j 0=L/\j<xs.length))<->((1<=xs.getD j 0/\xs.getD j 0<((L+1:Nat):Int))\/(xs.getD j 0=((L+1:Nat):Int)/\j<0)):=by omega
 simp only[this]
theorem VY(hk:hok xs):wJ xs 16 0=yM xs:=by
 unfold wJ yM;apply mH;intro j hj;have hj:j<xs.length:=by simpa using hj
 have hb:=hk _ (pQ hj);rw[qT hj];have:((1<=xs[j]/\xs[j]<((16:Nat):Int))\/(xs[j]=((16:Nat):Int)/\j<0))<->1<=xs[j]:=by omega
 simp only[this]
theorem VZ(hi:i<xs.length)(h0:xs[i]≠(L:Int)):wJ xs L (i+1)=wJ xs L i:=by
 unfold wJ;apply mH;intro j hj;by_cases h:j=i
 ·subst h;rw[qT hi];have:((1<=xs[j]/\xs[j]<(L:Int))\/(xs[j]=(L:Int)/\j<j+1))<->((1<=xs[j]/\xs[j]<(L:Int))\/(xs[j]=(L:Int)/\j<j)):=by omega
  simp only[this]
 ·have:((1<=xs.getD j 0/\xs.getD j 0<(L:Int))\/(xs.getD j 0=(L:Int)/\j<i+1))<->((1<=xs.getD j 0/\xs.getD j 0<(L:Int))\/(xs.getD j 0=(L:Int)/\j<i)):=by omega
  simp only[this]
theorem Wa(hi:i<xs.length)(h0:xs[i]=(L:Int)):wJ xs L (i+1)=(wJ xs L i).set i (wB xs i):=by
 apply nW;intro j;rw[pU,E9];by_cases h:j<xs.length
 ·by_cases he:i=j
  ·subst he;rw[vP rfl,vP hi];simp only[wJ,uY,mG h,pK,qT h];rw[vP (.inr ⟨h0,by omega⟩)]
  ·rw[vM he];simp only[wJ,uY,mG h,pK];have:((1<=xs.getD j 0/\xs.getD j 0<(L:Int))\/(xs.getD j 0=(L:Int)/\j<i+1))<->((1<=xs.getD j 0/\xs.getD j 0<(L:Int))\/(xs.getD j 0=(L:Int)/\j<i)):=by omega
   simp only[this]
 ·rw[pC (by rw[E9];omega),vM (by omega),pC (by rw[E9];omega)]
theorem Th{ps:List (Int×Int)}(H:xG h (.slice a l c) ps)(hs:∀b,zf (.slice a l c)=some b->¬S b)(hi:i<ps.length)(x y:Int) :
  yU S h (((a.getD default).add (i*2)).add 0)/\yU S (zJ h (((a.getD default).add (i*2)).add 0) (.int .i64 x)) (((a.getD default).add (i*2)).add (0+1)) /\
  xG (zJ (zJ h (((a.getD default).add (i*2)).add 0) (.int .i64 x)) (((a.getD default).add (i*2)).add (0+1)) (.int .u64 y)) (.slice a l c) (ps.set i (x,y)) /\
  ∀z,zf (.slice a l c)≠some z->zJ (zJ h (((a.getD default).add (i*2)).add 0) (.int .i64 x)) (((a.getD default).add (i*2)).add (0+1)) (.int .u64 y) z=h z:=by
 obtain⟨b,sp,T,e,hb⟩:=H;cases e
 have hsb:=hs b rfl;have e1:(((some (⟨b,0,none⟩:Addr)).getD default).add (i*2)).add 0=(⟨b,i*2,none⟩:Addr):=by
  rw[add_add,pE,zp];simp
 have e2:(((some (⟨b,0,none⟩:Addr)).getD default).add (i*2)).add (0+1)=(⟨b,i*2+1,none⟩:Addr):=by
  rw[add_add,pE,zp];simp
 have hlen:i<(ps++sp).length:=by simp;omega
 have hsz:(Eng.yT (ps++sp)).size=(ps++sp).length*2:=Mk _;have ok:∀ {c:Array Value} {h1:qaA} {i:Nat},h1 b=some (.cells c T)->i<c.size->yU S h1 ⟨b,i,none⟩:=fun {c h1 i} hc hi2=>
  ⟨⟨c[i],by simp[zg,hc,hi2]⟩,by simp[y8,hc],hsb⟩
 rw[e1,e2,kM hb];refine⟨ok hb (by omega),ok upd_same (by rw[lU];omega),?_⟩;rw[kM upd_same,xe,OT _ _ hlen,gQ _ _ hi];exact⟨⟨b,sp,T,by simp,upd_same⟩,fun z hz=>upd_ne fun e=>hz (by rw[e];rfl)⟩
end
variable {b j k:Nat}{cs:List (Nat×Nat)}
section
def zn(xs:List Int):List (Nat×Nat):=(yM xs).map fun p=>(p.1.toNat,p.2.toNat)
theorem jx:(yM xs).length=xs.length:=by simp[yM]
theorem xA:(zn xs).length=xs.length:=by simp[zn,yM]
theorem wF(hj:j<xs.length):(yM xs)[j]? = some (if 1<=xs[j]then wB xs j else(0,0)):=by
 simp only[yM,uY,mG hj,pK,qT hj]
theorem CP(hj:j<xs.length)(hl:xs[j]=(l:Int)):wB xs j=((l:Int),tl (cst xs l+(((xs.take j).count (l:Int):Nat):Int)) l):=by
 unfold wB;rw[qT hj,hl,vV]
theorem ku(hok:hok xs){p:Int×Int}(h:(yM xs)[j]? = some p):∃l b:Nat,p=((l:Int),(b:Int))/\(zn xs)[j]? = some (l,b)/\l<=15/\b<2^l:=by
 have hj:j<xs.length:=by have:=(vS.1 h).1;rwa[jx]at this
 have hc:(zn xs)[j]? = some (p.1.toNat,p.2.toNat):=by simp only[zn,uY,h,pK]
 rw[wF hj]at h;have hb:=hok _ (pQ hj);obtain⟨l,hl⟩:=vZ hb.1;by_cases h1:1<=xs[j]
 ·rw[vP h1,CP hj hl]at h;have h:=(pT h).symm;subst h;have ht:=Qn (x:=cst xs l+(((xs.take j).count (l:Int):Nat):Int)) (n:=l);obtain⟨b,hb2⟩:=vZ ht.1;refine⟨l,b,by rw[hb2],by rw[hc,hb2];rfl,by omega,?_⟩;have:=ht.2;rw[hb2,yG]at this;exact_mod_cast this
 ·rw[vM h1]at h;have h:=(pT h).symm;subst h;exact⟨0,0,rfl,by rw[hc];rfl,by omega,by decide⟩
def Em(cs:List (Nat×Nat))(m l v:Nat):Prop:=∃s c,s<m/\cs[s]? = some c/\l<c.1/\c.2%2^l=v
def Ec(cs:List (Nat×Nat))(l v:Nat):Prop:=∃c∈cs,l<c.1/\c.2%2^l=v
instance (cs:List (Nat×Nat)) (l v:Nat):Decidable (Ec cs l v):=by unfold Ec;infer_instance
def Ym(cs:List (Nat×Nat)):Nat->Nat->Nat->Nat
 | 0,_,_=>0
 | m+1,l,v=>if cs[m]? = some (l,v)/\0<l then m+1 else Ym cs m l v
theorem Oa{l v:Nat}:Em cs cs.length l v<->Ec cs l v:=by
 constructor
 ·rintro⟨s,c,_,h,h2⟩;exact⟨c,mP h,h2⟩
 ·rintro⟨c,hc,h2⟩;obtain⟨s,hs⟩:=mF hc;exact⟨s,c,(vS.1 hs).1,hs,h2⟩
theorem Ob(h:l<=k:=by omega):b%2^k%2^l=b%2^l:=Nat.mod_mod_of_dvd _ (Nat.pow_dvd_pow 2 h)
theorem zcw{m l v:Nat}(h:Em cs m (l+1) v):Em cs m l (v%2^l):=by
 obtain⟨s,c,h1,h2,h3,h4⟩:=h;exact⟨s,c,h1,h2,by omega,by rw[<-h4,Ob]⟩
theorem Gl{l v:Nat}:∀ {m:Nat},Ym cs m l v≠0->∃s,s<m/\cs[s]? = some (l,v)/\0<l/\Ym cs m l v=s+1
 | 0,h=>absurd rfl h
 | m+1,h=>by
  rw[Ym]at h ⊢;by_cases h1:cs[m]? = some (l,v)/\0<l
  ·rw[vP h1];exact⟨m,by omega,h1.1,h1.2,rfl⟩
  ·rw[vM h1]at h ⊢;obtain⟨s,a,b,c,d⟩:=Gl h;exact⟨s,by omega,b,c,d⟩
theorem Oc{l v:Nat}:∀ {m:Nat},(∀s,s<m->cs[s]? = some (l,v)->¬0<l)->Ym cs m l v=0
 | 0,_=>rfl
 | m+1,h=>by
  rw[Ym,vM (fun h1=>h m (by omega) h1.1 h1.2)];exact Oc fun s hs=>h s (by omega)
theorem zcx{m l v:Nat}(h:Ym cs m (l+1) v≠0):Em cs m l (v%2^l):=by
 obtain⟨s,a,b,_,_⟩:=Gl h;exact⟨s,_,a,b,mZ _,rfl⟩
def uniq(cs:List (Nat×Nat)):Prop:=∀s t l v:Nat,0<l->cs[s]? = some (l,v)->cs[t]? = some (l,v)->s=t
theorem YW(U:uniq cs){s l v:Nat}(h:cs[s]? = some (l,v))(hl:0<l)(hm:s<m):Ym cs m l v=s+1:=by
 by_cases h0:Ym cs m l v=0
 ·exfalso;induction m with
  | zero=>omega
  | succ m ih=>
   rw[Ym]at h0;by_cases h1:cs[m]? = some (l,v)/\0<l
   ·rw[vP h1]at h0;omega
   ·rw[vM h1]at h0;by_cases h2:s=m
    ·subst h2;exact h1 ⟨h,hl⟩
    ·exact ih (by omega) h0
 ·obtain⟨t,_,b,_,d⟩:=Gl h0;rw[d,U s t l v hl h b]
def nxt(cs:List (Nat×Nat))(b:Nat):Nat->Nat->Int×Int×Int
 | 0,_=>(2,0,0)
 | f+1,l=>if Ym cs cs.length l (b%2^l)≠0 then(1,(Ym cs cs.length l (b%2^l):Int)-1,(l:Int))else if Ec cs l (b%2^l)then nxt cs b f (l+1)else(0,0,0)
def FG(l:Nat)(xs:List Int):Int:=(xs.map fun x=>if 0<x/\x<=(l:Int)then jD x else 0).sum
theorem XY(x:Int):0<=jD x:=by
 unfold jD;split
 ·exact Int.natCast_nonneg _
 ·omega
theorem Ti(l:Nat):∀xs:List Int,FG l xs<=kr xs
 | []=>by simp[FG,kr]
 | x::r=>by
  have:=Ti l r;have h0:=XY x;unfold FG kr at *;simp only[vD,fE];split <;> omega
theorem OY:∀xs:List Int,FG 0 xs=0
 | []=>rfl
 | x::r=>by
  have:=OY r;unfold FG at *;simp only[vD,fE,this];rw[vM (by omega)];rfl
theorem IX(l:Nat)(hl:l+1<=15):∀xs:List Int,FG (l+1) xs=FG l xs+((xs.count ((l+1:Nat):Int):Nat):Int)*2^(15-(l+1))
 | []=>by simp[FG]
 | x::r=>by
  have ih:=IX l hl r;unfold FG at *;simp only[vD,fE,List.count_cons];by_cases h:x=((l+1:Nat):Int)
  ·have e1:(x==((l+1:Nat):Int))=true:=by simp[h]
   rw[e1,vP rfl,vP (show 0<x/\x<=((l+1:Nat):Int) by omega),vM (show ¬(0<x/\x<=(l:Int)) by omega),ih];have e2:jD x=2^(15-(l+1)):=by
    unfold jD;rw[vP (by omega),yG];congr 3;omega
   rw[e2];push_cast;rw[Int.add_mul];omega
  ·have e1:(x==((l+1:Nat):Int))=false:=beq_eq_false_iff_ne.2 h;rw[e1];have e3:(0<x/\x<=((l+1:Nat):Int))<->(0<x/\x<=(l:Int)):=by omega
   simp only[e3,vL,vY,uI];rw[ih];omega
theorem Rb{xs:List Int}:∀l:Nat,l+1<=15->cst xs (l+1)*2^(15-(l+1))=FG l xs
 | 0,_=>by simp[cst,OY]
 | l+1,h=>by
  have ih:=Rb (xs:=xs) l (by omega);rw[cst,IX l (by omega),<-ih,vM (by omega)];have e:(2:Int)^(15-(l+1))=2*2^(15-(l+1+1)):=by
   rw[show 15-(l+1)=(15-(l+1+1))+1 by omega,mA];omega
  rw[e];generalize (2:Int)^(15-(l+1+1))=p;generalize cst xs (l+1)=c;generalize ((xs.count ((l+1:Nat):Int):Nat):Int)=k;rw[mM 2 (c+k),lX,Int.add_mul]
theorem Lh(hk:kr xs<=32768)(h1:1<=l)(h2:l<=15):cst xs l+((xs.count (l:Int):Nat):Int)<=2^l:=by
 obtain⟨m,rfl⟩:∃m,l=m+1:=⟨l-1,by omega⟩;have a:=Rb (xs:=xs) m h2;have b:=IX m h2 xs;have c:=Ti (m+1) xs;have hp:(0:Int)<2^(15-(m+1)):=nG (by decide);have e:(32768:Int)=2^(m+1)*2^(15-(m+1)):=by
  rw[<-Int.pow_add,show m+1+(15-(m+1))=15 by omega];rfl
 refine Int.le_of_mul_le_mul_right (a:=2^(15-(m+1))) ?_ hp;rw[Int.add_mul,a,<-b,<-e];omega
theorem Rc:∀ {n:Nat} {x y:Int},0<=x->0<=y->tl x n=tl y n->x%2^n=y%2^n
 | 0,x,y,_,_,_=>by simp
 | n+1,x,y,hx,hy,h=>by
  rw[tl,tl]at h;have hp:(0:Int)<2^n:=nG (by decide);have h2:x/2^n%2=y/2^n%2:=by omega
  have h1:tl x n=tl y n:=by omega
  have ih:=Rc hx hy h1;have key:∀z:Int,z%2^(n+1)=z%2^n+2^n*(z/2^n%2):=fun z=>by
   have hd:z/(2^n*2)=z/2^n/2:=(lZ (mB hp)).symm;rw[mA,fT z (2^n*2),hd,fT z (2^n),fT (z/2^n) 2,Int.mul_sub,lX];omega
  rw[key x,key y,ih,h2]
theorem wC(hj:j<xs.length){a:Int}(h:xs[j]=a):(xs.take j).count a<xs.count a:=by
 have e:xs=xs.take j++xs[j]::xs.drop (j+1):=by rw[<-List.drop_eq_getElem_cons hj,gN]
 conv=>rhs;rw[e]
 rw[List.count_append,List.count_cons,h];simp
theorem Fg(hij:i<j)(hi:i<xs.length){a:Int}(h:xs[i]=a):(xs.take i).count a<(xs.take j).count a:=by
 have hlt:i<(xs.take j).length:=by rw[pW];omega
 have e2:(xs.take j).take i=xs.take i:=by rw[List.take_take];congr 1;omega
 have:=wC (xs:=xs.take j) hlt (a:=a) (by rw[List.getElem_take];exact h);rwa[e2]at this
theorem YX(h:¬(zu xs=0\/zu xs=2)):kr xs<=32768:=by
 obtain⟨h1,h2⟩:=jH h;unfold zu at h;by_cases h3:cn xs=0
 ·have:=NY h3;omega
 ·by_cases h4:kr xs>32768
  ·have:¬xs.length>320:=by omega
   simp[this,h2,h3,h4]at h
  ·omega
theorem GY(h:¬(zu xs=0\/zu xs=2)):uniq (zn xs):=by
 obtain⟨hlen,hok⟩:=jH h;have hk:=YX h;intro s t l v hl hs ht;have key:∀ {j},(zn xs)[j]? = some (l,v)->∃hj:j<xs.length,xs[j]=(l:Int)/\(v:Int)=tl (cst xs l+(((xs.take j).count (l:Int):Nat):Int)) l:=fun {j} hj=>by
  have hj1:j<xs.length:=by have:=(vS.1 hj).1;rwa[xA]at this
  have hg:=wF (xs:=xs) hj1;have hb:=hok _ (pQ hj1);obtain⟨k,hk⟩:=vZ hb.1;obtain⟨l',b',e,hn,_,_⟩:=ku hok hg;rw[hj]at hn;simp only[uZ,uV]at hn;obtain⟨rfl,rfl⟩:=hn;by_cases h1:1<=xs[j]
  ·rw[vP h1,CP hj1 hk]at e;simp only[uV]at e;have e1:k=l:=by exact_mod_cast e.1
   subst e1;exact⟨hj1,hk,e.2.symm⟩
  ·rw[vM h1]at e;simp only[uV]at e;have:l=0:=by exact_mod_cast e.1.symm
   omega
 obtain⟨hs1,hs2,hs3⟩:=key hs;obtain⟨ht1,ht2,ht3⟩:=key ht;have hl15:l<=15:=by have:=hok _ (pQ hs1);omega
 have room:=Lh hk hl hl15;have c0:=qD (xs:=xs) hlen (l:=l);have cs:=wC hs1 hs2;have ct:=wC ht1 ht2;have inj:=Rc (n:=l) (x:=cst xs l+(((xs.take s).count (l:Int):Nat):Int)) (y:=cst xs l+(((xs.take t).count (l:Int):Nat):Int)) (by omega) (by omega) (by rw[<-hs3,<-ht3]);rw[mV (by omega) (by omega),mV (by omega) (by omega)]at inj;have hcc:(xs.take s).count (l:Int)=(xs.take t).count (l:Int):=by omega
 rcases Nat.lt_trichotomy s t with h | h | h
 ·have:=Fg h hs1 hs2;omega
 ·exact h
 ·have:=Fg h ht1 ht2;omega
end
variable {T:TypeId}{h':qaA}{y:Int}
section
theorem Re{K:qaA->Prop}(hs:¬S b)(hK:K (upd h b (.cells (ints .u64 (List.replicate 17 0)) T))) :
  ye S ⟨b,0,none⟩ 0 [Value.int IntKind.u64 0,Value.int IntKind.u64 0,Value.int IntKind.u64 0,Value.int IntKind.u64 0,Value.int IntKind.u64 0,Value.int IntKind.u64 0,Value.int IntKind.u64 0,Value.int IntKind.u64 0,Value.int IntKind.u64 0,Value.int IntKind.u64 0,Value.int IntKind.u64 0,Value.int IntKind.u64 0,Value.int IntKind.u64 0,Value.int IntKind.u64 0,Value.int IntKind.u64 0,Value.int IntKind.u64 0,Value.int IntKind.u64 0]
   (upd h b (Obj.cells (List.replicate 17 (Value.int IntKind.u64 0)).toArray T)) K:=by
 have e:(List.replicate 17 (Value.int IntKind.u64 0)).toArray=ints .u64 (List.replicate 17 0):=by unfold ints;rw[List.map_replicate]
 rw[e];refine qc (off:=0) hs (List.replicate 17 (0:Int)) 0 (upd h b (.cells (ints .u64 (List.replicate 17 0)) T)) (List.replicate 17 0) upd_same (by simp) ?_;rw[xe];exact hK
theorem Gm{cs:List Int}(hb:h' b=some (.cells (ints .u64 cs) T)){x:Nat}(hy:cs[x]? = some y):zg h' (((⟨b,0,none⟩:Addr).add (x*1)).add 0)=some (.int .u64 y):=by
 rw[pY,add_add,y9];simp only[zg,hb,ints,uI,pD,uY,hy];rfl
theorem Od{cs:List Int}{K:qaA->Prop}(hb:h' b=some (.cells (ints .u64 cs) T))(hs:¬S b){x:Nat}(hx:x<cs.length)(hK:K (upd h' b (.cells (ints .u64 (cs.set x y)) T))) :
  ye S ((⟨b,0,none⟩:Addr).add (x*1)) 0 [.int .u64 y] h' K:=by
 have e0:(⟨b,0,none⟩:Addr).add (x*1)=⟨b,x,none⟩:=by rw[pY,y9]
 rw[e0];refine qc (off:=x) hs [y] 0 h' cs hb (by simp;omega) ?_;have e1:jy cs (x+0) [y]=cs.set x y:=by
  unfold jy;rw[lJ,vP hx];simp
 rw[e1];exact hK
theorem EA(hi:qaC S h)(O:tI.O h v xs)(L:IV xs) :
  zb oPP S qO #[v] h (fun v h'=>CO.O h' v (yH xs)/\CO.New h v/\qaB h h'):=by
 obtain⟨a,c,rfl,hc,hx⟩:=Part.ints O;refine I9 (vs:=[.slice a xs.length c]) ⟨rfl,trivial⟩ hi ?_;simp only[Eh,Tr.wp,KI,z8,Ex.ev,coerce,toInt_int,za,zd,zi,ze,zj,yg,j7,zB,arith,Cst.val,SV.den,zq,zK,zz,zm,zl,yF,zw,zY,zr,vF,vG,vA,vB,vC,vT,vO,vU,vD,vE,vJ,vI,vK,uA,vY,vL];refine(wO hi a c xs hx).mono ?_;rintro _ hq ⟨rfl,eq⟩;rw[eq];refine⟨_,rfl,fun hbad=>?_,fun hok1=>?_⟩
 ·have hb:zu xs=0\/zu xs=2:=by simpa using hbad
  intro b hb0;simp only[yH,vP hb];exact⟨⟨b,[],_,rfl,upd_same⟩,fun z hz=>by cases hz;exact hb0,Sub.zx hb0⟩
 have hg:¬(zu xs=0\/zu xs=2):=by simpa using hok1
 obtain⟨hlen,hok⟩:=jH hg;simp only[yH,vM hg];intro b1 hb1;have hs1:¬S b1:=fun hs=>hi b1 hs hb1
 refine Re hs1 ?_;refine⟨fun us h'=>∃i:Nat,us=[.int .i64 i]/\i<=xs.length/\h'=upd h b1 (.cells (ints .u64 (BG xs i)) 133),fun us _=>xs.length-(toInt (us.getD 0 undef)).toNat,⟨0,rfl,by omega,by rw[VP]⟩,?_⟩;rintro x h' ⟨i,hx1,hi2,rfl⟩;obtain rfl:x=i:=by simpa using hx1
 have sub1:qaB h (upd h b1 (.cells (ints .u64 (BG xs i)) 133)):=Sub.zx hb1;have w2:IntKind.i64.wrap ((i:Int)+1)=((i+1:Nat):Int):=z9;refine⟨fun hlt=>?_,fun hge=>?_⟩
 ·have hi3:i<xs.length:=by omega
  obtain⟨g1,g2⟩:=(hx.sub sub1).cell (vQ hi3);have hb:=hok _ (pQ hi3);rw[w2];refine⟨by simpa using g2,by omega,hlt,xs[i],by simpa[add_add]using g1,fun hpos=>?_,fun hnp _=>?_⟩
  ·obtain⟨k,hk⟩:=vZ hb.1;have hk1:1<=k/\k<17:=by omega
   have hcl:=Dq (a:=(k:Int)) (i:=i) hlen;have hg:=E7 (xs:=xs) (i:=i) hk1.2;rw[vM (by omega)]at hg;rw[hk,vV];refine⟨by omega,by omega,_,Gm upd_same hg,by omega,by omega,?_⟩;refine Od upd_same hs1 (by rw[E6];omega) fun _=>?_
   rw[u64_in _ (by omega),xe,<-VR hi3 hk hk1.1 hk1.2];exact⟨⟨i+1,rfl,by omega,rfl⟩,by simp only[vA,toInt_int];omega⟩
  ·exact⟨⟨i+1,rfl,by omega,by rw[VQ hi3 (by omega)]⟩,by simp only[vA,toInt_int];omega⟩
 obtain rfl:i=xs.length:=by omega
 obtain⟨h1,hh1⟩:∃h1,h1=upd h b1 (.cells (ints .u64 (BG xs xs.length)) 133):=⟨_,rfl⟩;rw[<-hh1]at sub1 ⊢;intro b2 hb2;have hb20:=zU sub1 hb2;have hs2:¬S b2:=fun hs=>hi b2 hs hb20
 have hne:b1≠b2:=fun e=>by rw[hh1,<-e,upd_same]at hb2;cases hb2
 refine Re hs2 ?_;refine⟨fun us h'=>∃l:Nat,us=[.int .i64 l]/\1<=l/\l<=16/\h'=upd h1 b2 (.cells (ints .u64 (nxL xs l)) 133),fun us _=>16-(toInt (us.getD 0 undef)).toNat,⟨1,rfl,by omega,by omega,by rw[ZP]⟩,?_⟩;rintro x h' ⟨l,hx1,hl1,hl2,rfl⟩;obtain rfl:x=l:=by simpa using hx1
 have w2:IntKind.i64.wrap ((l:Int)+1)=((l+1:Nat):Int):=z9;refine⟨fun hle=>?_,fun hgt=>?_⟩
 ·have w3:IntKind.i64.wrap ((l:Int)-1)=((l-1:Nat):Int):=z9;rw[w2,w3];have gn:=J6 (xs:=xs) (i:=l) (l:=l-1) (by omega);rw[vP (by omega)]at gn;have gc:=E7 (xs:=xs) (i:=xs.length) (l:=l-1) (by omega);rw[nI]at gc;have hc1:upd h1 b2 (.cells (ints .u64 (nxL xs l)) 133) b1=some (.cells (ints .u64 (BG xs xs.length)) 133):=by rw[upd_ne hne,hh1,upd_same]
  refine⟨by omega,by omega,_,Gm upd_same gn,by omega,by omega,_,Gm hc1 gc,by omega,by omega,?_⟩;refine Od upd_same hs2 (by rw[Gk];omega) ?_;have hs:=qD (xs:=xs) hlen (l:=l);have hs0:=qD (xs:=xs) hlen (l:=l-1);have hcs:cst xs l=2*(cst xs (l-1)+(if l-1=0 then 0 else((xs.count ((l-1:Nat):Int):Nat):Int))):=by
   conv=>lhs;rw[show l=l-1+1 by omega,cst]
  have hcc:0<=(if l-1=0 then(0:Int)else((xs.count ((l-1:Nat):Int):Nat):Int)):=by split <;> omega
  have m1:min (Int.toNat 1) IntKind.u64.bits=1:=by decide
  rw[m1,Int.pow_one,u64_in (cst xs (l-1)+_) (by omega),u64_in _ (by omega),mM,<-hcs,xe,vV,<-XU (by omega)];exact⟨⟨l+1,rfl,by omega,by omega,rfl⟩,by simp only[vA,toInt_int];omega⟩
 obtain rfl:l=16:=by omega
 have wl:IntKind.i64.wrap (xs.length:Int)=xs.length:=i64_in _ (by omega);have sub2:qaB h (upd h1 b2 (.cells (ints .u64 (nxL xs 16)) 133)):=sub1.trans (Sub.zx hb2);obtain⟨h2,hh2⟩:∃h2,h2=upd h1 b2 (.cells (ints .u64 (nxL xs 16)) 133):=⟨_,rfl⟩;rw[<-hh2]at sub2 ⊢;rw[wl];refine⟨by omega,by omega,by omega,fun b3 hb3=>?_⟩;have hb30:=zU sub2 hb3;have hne2:b3≠b2:=fun e=>by rw[hh2,e,upd_same]at hb3;cases hb3
 rw[vV,Hu];have s3:qaB h (upd h2 b3 (.cells (Eng.yT (List.replicate xs.length (0,0))) 98)):=sub2.trans (Sub.zx hb3);refine⟨fun us h'=>∃s:Nat,us=[.int .i64 s]/\s<=xs.length/\xG h' (.slice (some ⟨b3,0,none⟩) xs.length xs.length) (BH xs s)/\h' b2=some (.cells (ints .u64 (nxS xs s)) 133)/\qaB h h',fun us _=>xs.length-(toInt (us.getD 0 undef)).toNat,⟨0,rfl,by omega,?_,?_,s3⟩,?_⟩
 ·rw[VS];have:=xG.made (h:=h2) (b:=b3) (T:=98) (List.replicate xs.length ((0:Int),(0:Int)));rwa[pI]at this
 ·rw[upd_ne hne2.symm,hh2,upd_same,XV]
 rintro x h' ⟨s,hx1,hi2,OW,hn,sb⟩;obtain rfl:x=s:=by simpa using hx1
 have w2:IntKind.i64.wrap ((s:Int)+1)=((s+1:Nat):Int):=z9;refine⟨fun hlt=>?_,fun hge=>?_⟩
 ·have hi3:s<xs.length:=by omega
  obtain⟨g1,g2⟩:=(hx.sub sb).cell (vQ hi3);have hb:=hok _ (pQ hi3);rw[w2];refine⟨by simpa using g2,by omega,hlt,xs[s],by simpa[add_add]using g1,fun hpos=>?_,fun hnp _=>?_⟩
  ·obtain⟨k,hk⟩:=vZ hb.1;have hk1:1<=k/\k<16:=by omega
   have hcl:=Dq (a:=(k:Int)) (i:=s) hlen;have hs:=qD (xs:=xs) hlen (l:=k);have hg:=Tg (xs:=xs) (i:=s) hk1.2 hk1.1;rw[hk,vV];refine⟨by omega,by omega,_,Gm hn hg,?_⟩;refine(XT (hi.sub sb) _ k (by omega) (by omega) (by omega)).mono ?_;rintro _ hq ⟨rfl,eq⟩;rw[eq];refine⟨_,rfl,?_⟩;have hno:∀b,zf (.slice (some ⟨b3,0,none⟩) xs.length xs.length)=some b->¬S b:=fun z hz hs=>by cases hz;exact hi b3 hs hb30
   obtain⟨o1,o2,o3,o4⟩:=Th OW hno (i:=s) (by rw[E8];exact hi3) (k:Int) (tl (cst xs k+(((xs.take s).count (k:Int):Nat):Int)) k);rw[vV];refine⟨by simp,by omega,hlt,o1,o2,?_⟩;have hn2:=(o4 b2 (fun e=>hne2 (by cases e;rfl))).trans hn;have sb2:qaB h (zJ (zJ h' ((((some (⟨b3,0,none⟩:Addr)).getD default).add (s*2)).add 0) (.int .i64 k)) ((((some (⟨b3,0,none⟩:Addr)).getD default).add (s*2)).add (0+1)) (.int .u64 (tl (cst xs k+(((xs.take s).count (k:Int):Nat):Int)) k))):=fun y o hy=>by
    rw[o4 y (fun e=>by cases e;rw[hb30]at hy;cases hy)];exact sb y o hy
   refine⟨by omega,by omega,_,Gm hn2 hg,by omega,by omega,?_⟩;refine Od hn2 hs2 (by rw[J7];omega) fun _=>?_
   rw[u64_in _ (by omega),<-XX hi3 hk hk1.1 hk1.2];have hcode:wB xs s=((k:Int),tl (cst xs k+(((xs.take s).count (k:Int):Nat):Int)) k):=by
    unfold wB;rw[qT hi3,hk,vV]
   refine⟨⟨s+1,rfl,by omega,?_,upd_same,fun y o hy=>?_⟩,by simp only[vA,toInt_int];omega⟩
   ·rw[VV hi3 (by omega),hcode];exact o3.keep fun z hz=>upd_ne fun e=>hne2 (by cases hz;exact e)
   ·rw[upd_ne (fun e=>by rw[e,hb20]at hy;cases hy)];exact sb2 y o hy
  ·exact⟨⟨s+1,rfl,by omega,by rw[VU hi3 (by omega)];exact OW,by rw[XW hi3 (by omega)];exact hn,sb⟩,by simp only[vA,toInt_int];omega⟩
 obtain rfl:s=xs.length:=by omega
 rw[VT]at OW;exact⟨OW,fun z hz=>by cases hz;exact hb30,sb⟩
theorem qU(hi:qaC S h)(O:tI.O h v xs)(L:IV xs) :
  zb oPP S jo #[v] h (fun v h'=>CO.O h' v (yH xs)/\CO.New h v/\qaB h h'):=by
 obtain⟨a,c,rfl,hc,hx⟩:=Part.ints O;refine IA (vs:=[.slice a xs.length c]) ⟨rfl,trivial⟩ hi ?_;simp only[Ei,Tr.wp,z8,Ex.ev,coerce,toInt_int,za,zd,zi,ze,zj,yg,j7,zB,arith,Cst.val,SV.den,zq,zK,zz,zm,zl,zw,zY,zr,vF,vG,vA,vB,vC,vT,vO,vU,vD,vE,vJ,vI,vK,uA,vY,vL];intro b0 hb0;have e0:(Obj.cells #[] 98)=.cells (Eng.yT []) 98:=rfl;have s0:qaB h (upd h b0 (.cells (Eng.yT []) 98)):=Sub.zx hb0;refine(BF (hi.sub s0) a c xs (hx.sub s0)).mono ?_;rintro _ hq ⟨rfl,eq⟩;rw[eq];refine⟨_,rfl,fun hbad=>?_,fun hok1=>?_⟩
 ·have hb:zu xs=0\/zu xs=2:=by simpa using hbad
  simp only[yH,vP hb];exact⟨⟨b0,[],_,rfl,upd_same⟩,fun z hz=>by cases hz;exact hb0,s0⟩
 have hg:¬(zu xs=0\/zu xs=2):=by simpa using hok1
 obtain⟨hlen,hok⟩:=jH hg;simp only[yH,vM hg];refine⟨fun us h'=>∃(a:Option Addr) (c i:Nat),us=[.slice a i c,.int .i64 i]/\i<=xs.length/\xG h' (.slice a i c) (List.replicate i (0,0))/\qaD h (.slice a i c)/\qaB h h',fun us _=>xs.length-(toInt (us.getD 1 undef)).toNat,⟨_,_,0,rfl,by omega,xG.made [],New.of hb0,s0⟩,?_⟩;rintro a1 l1 c1 x h1 ⟨a1',c1',i,hx1,hi2,OW,N1,s1⟩;obtain⟨⟨rfl,rfl,rfl⟩,rfl⟩:(a1=a1'/\l1=i/\c1=c1')/\x=i:=by simpa using hx1
 refine⟨fun hlt=>?_,fun hge=>?_⟩
 ·intro b hb;have s2:qaB h1 (upd h1 b (.cells (Eng.yT [(0,0)]) 98)):=Sub.zx hb;have OW2:xG (upd h1 b (.cells (Eng.yT [(0,0)]) 98)) (.slice a1 l1 c1) (List.replicate l1 (0,0)):=OW.keep fun z hz=>upd_ne fun e=>by
   rw[e]at hz;exact OW.held b hz hb
  refine VM hi (s1.trans s2) OW2 N1 (p:=(0,0)) (kN.of (sp:=[]) upd_same) (by rw[pI];omega) fun v' h2 o2 n2 s3 _ _=>?_
  obtain⟨a2,c2,rfl,_,_⟩:=o2.yT;have e1:List.replicate l1 ((0:Int),(0:Int))++[(0,0)]=List.replicate (l1+1) (0,0):=by rw[gS]
  have w2:IntKind.i64.wrap ((l1:Int)+1)=((l1+1:Nat):Int):=z9;rw[e1]at o2 n2;simp only[ze,zd,zi,e1,w2,pI];rw[pI]at o2 n2;exact⟨⟨a2,c2,l1+1,rfl,by omega,o2,n2,s3⟩,by simp only[vB,vA,toInt_int];omega⟩
 obtain rfl:l1=xs.length:=by omega
 have hno:∀b,zf (.slice a1 xs.length c1)=some b->¬S b:=fun z hz hs=>hi z hs (N1 z hz)
 refine⟨fun us h'=>∃l:Nat,us=[.int .i64 (cst xs (l-1)+(if l=1 then 0 else((xs.count ((l-1:Nat):Int):Nat):Int))),.int .i64 l]/\1<=l/\l<=16/\xG h' (.slice a1 xs.length c1) (wJ xs l 0)/\qaB h h',fun us _=>16-(toInt (us.getD 1 undef)).toNat,⟨1,by simp[cst],by omega,by omega,by rw[VW];exact OW,s1⟩,?_⟩;rintro x y h2 ⟨l,hx2,hl1,hl2,OW2,s2⟩;obtain⟨rfl,rfl⟩:x=cst xs (l-1)+(if l=1 then 0 else((xs.count ((l-1:Nat):Int):Nat):Int))/\y=l:=by simpa using hx2
 refine⟨fun hle=>?_,fun hgt=>?_⟩
 ·have hs:=qD (xs:=xs) hlen (l:=l);have hs0:=qD (xs:=xs) hlen (l:=l-1);have hcs:cst xs l=2*(cst xs (l-1)+(if l=1 then 0 else((xs.count ((l-1:Nat):Int):Nat):Int))):=by
   have e1:(if l=1 then(0:Int)else((xs.count ((l-1:Nat):Int):Nat):Int))=(if l-1=0 then(0:Int)else((xs.count ((l-1:Nat):Int):Nat):Int)):=by
    by_cases h:l=1
    ·rw[vP h,vP (by omega)]
    ·rw[vM h,vM (by omega)]
   rw[e1]
   conv=>lhs;rw[show l=l-1+1 by omega,cst]
  have w1:IntKind.i64.wrap (2*(cst xs (l-1)+(if l=1 then 0 else((xs.count ((l-1:Nat):Int):Nat):Int))))=cst xs l:=by rw[<-hcs];exact i64_in _ (by omega)
  rw[w1];refine⟨fun us h'=>∃i:Nat,us=[.int .i64 (cst xs l+(((xs.take i).count (l:Int):Nat):Int)),.int .i64 i]/\i<=xs.length/\xG h' (.slice a1 xs.length c1) (wJ xs l i)/\qaB h h',fun us _=>xs.length-(toInt (us.getD 1 undef)).toNat,⟨0,by simp,by omega,OW2,s2⟩,?_⟩;rintro x y h3 ⟨i,hx3,hi2,OW3,s3⟩;obtain⟨rfl,rfl⟩:x=cst xs l+(((xs.take i).count (l:Int):Nat):Int)/\y=i:=by simpa using hx3
  have hcl:=Dq (a:=(l:Int)) (i:=i) hlen;refine⟨fun hlt=>?_,fun hge=>?_⟩
  ·have hi3:i<xs.length:=by omega
   obtain⟨g1,g2⟩:=(hx.sub s3).cell (vQ hi3);have w2:IntKind.i64.wrap ((i:Int)+1)=((i+1:Nat):Int):=z9;have hcn:=qS hi3 (l:Int);refine⟨by simpa using g2,by omega,hlt,xs[i],by simpa[add_add]using g1,fun heq=>?_,fun hneq _=>?_⟩
   ·have heq:xs[i]=(l:Int):=by simpa using heq
    refine(XS (hi.sub s3) _ l (by omega) (by omega) (by omega)).mono ?_;rintro _ hq ⟨rfl,eq⟩;rw[eq];obtain⟨o1,o2,o3,o4⟩:=Th OW3 hno (i:=i) (by rw[E9];exact hi3) (l:Int) (tl (cst xs l+(((xs.take i).count (l:Int):Nat):Int)) l);have ha:a1.isSome=true:=by obtain⟨_,_,_,e,_⟩:=OW;simp only[pA]at e;rw[e.1];rfl
    have hcode:wB xs i=((l:Int),tl (cst xs l+(((xs.take i).count (l:Int):Nat):Int)) l):=by
     unfold wB;rw[qT hi3,heq,vV]
    refine⟨_,rfl,by simpa using ha,by omega,hlt,?_⟩;rw[vV];refine⟨o1,o2,fun _=>?_⟩;have w3:IntKind.i64.wrap (cst xs l+(((xs.take i).count (l:Int):Nat):Int)+1)=cst xs l+(((xs.take (i+1)).count (l:Int):Nat):Int):=by
     rw[i64_in _ (by omega),hcn,vP heq];omega
    rw[w2,w3];refine⟨⟨i+1,rfl,by omega,?_,fun y o hy=>?_⟩,by simp only[vB,vA,toInt_int];omega⟩
    ·rw[Wa hi3 heq,hcode];exact o3
    ·rw[o4 y (fun e=>by rw[N1 y e]at hy;cases hy)];exact s3 y o hy
   ·have hneq:xs[i]≠(l:Int):=by simpa using hneq
    have w3:cst xs l+(((xs.take i).count (l:Int):Nat):Int)=cst xs l+(((xs.take (i+1)).count (l:Int):Nat):Int):=by
     rw[hcn,vM hneq];rfl
    rw[w2];exact⟨⟨i+1,by rw[w3],by omega,by rw[VZ hi3 hneq];exact OW3,s3⟩,by simp only[vB,vA,toInt_int];omega⟩
  ·obtain rfl:i=xs.length:=by omega
   have w2:IntKind.i64.wrap ((l:Int)+1)=((l+1:Nat):Int):=z9;rw[w2,nI];rw[VX hl1]at OW3;exact⟨⟨l+1,by rw[Nat.add_sub_cancel,vM (by omega)],by omega,by omega,OW3,s3⟩,by simp only[vB,vA,toInt_int];omega⟩
 ·obtain rfl:l=16:=by omega
  rw[VY hok]at OW2;exact⟨OW2,N1,s2⟩
end
section
def Uy(r:Int×Int×Int):Value:=.agg #[.int .i64 r.1,.int .i64 r.2.1,.int .i64 r.2.2]
theorem Wb{l v M:Nat}(hM:∀c∈cs,c.1<=M)(h:Ec cs l v):l<M:=by
 obtain⟨c,hc,h1,_⟩:=h;have:=hM c hc;omega
theorem Gn{s l v L β:Nat}(hs:cs[s]? = some (L,β)):Em cs (s+1) l v<->Em cs s l v\/(l<L/\β%2^l=v):=by
 constructor
 ·rintro⟨t,c,h1,h2,h3⟩;by_cases h:t=s
  ·subst h;rw[hs]at h2;have:=pT h2;subst this;exact .inr h3
  ·exact .inl ⟨t,c,by omega,h2,h3⟩
 ·rintro(⟨t,c,h1,h2,h3⟩ | h3)
  ·exact⟨t,c,by omega,h2,h3⟩
  ·exact⟨s,_,by omega,hs,h3⟩
theorem XZ(hi:qaC S h)(a:Option Addr)(c:Nat)(ps:List (Int×Int))(cs:List (Nat×Nat))(hx:kN h a ps)(hlen:ps.length<=1048576)(hcl:cs.length=ps.length)
  (hcs:∀(j:Nat) p,ps[j]? = some p->∃l b:Nat,p=((l:Int),(b:Int))/\cs[j]? = some (l,b)/\l<=15/\b<2^l)(U:uniq cs)(b n:Nat)(hb:b<18446744073709551616)(hn:n<=64) :
  zb oPP S Dm #[.slice a ps.length c,.int .u64 b,.int .i64 n] h (fun v h'=>v=Uy (nxt cs b (n+1) 0)/\h'=h):=by
 refine Mu (vs:=[.slice a ps.length c,.int .u64 b,.int .i64 n]) ⟨rfl,rfl,rfl,trivial⟩ hi ?_;simp only[Hz,Tr.wp,z8,Ex.ev,coerce,toInt_int,za,zd,zi,ze,zj,yg,xu,zB,arith,Cst.val,SV.den,zq,zK,zz,zm,zl,zw,zY,zr,vF,vG,vA,vB,vC,vT,vO,vU,vD,vE,vJ,vI,vK,uE,uA,vY,vL];have hM:∀c∈cs,c.1<=15:=fun c hc=>by
  obtain⟨j,hj⟩:=mF hc;have hj2:j<ps.length:=by rw[<-hcl];exact(vS.1 hj).1
  obtain⟨l,b,_,h2,h3,_⟩:=hcs j _ (vQ hj2);rw[hj]at h2;have:=pT h2;rw[this];exact h3
 refine⟨fun us h'=>∃l:Nat,us=[.int .i64 l]/\l<=n+1/\l<=15/\nxt cs b (n+1) 0=nxt cs b (n+1-l) l/\h'=h,fun us _=>n+1-(toInt (us.getD 0 undef)).toNat,⟨0,rfl,by omega,by omega,rfl,rfl⟩,?_⟩;rintro x h' ⟨l,hx1,hl1,hl15,hnx,rfl⟩;obtain rfl:x=l:=by simpa using hx1
 refine⟨fun hle=>?_,fun hgt=>?_⟩
 ·refine(Aq hi l).mono ?_;rintro _ hq ⟨rfl,eq⟩;rw[eq];have hp:2^l<=2^15:=uX (by decide) hl15;have hp0:0<2^l:=fG l;have e15:2^15=32768:=by decide
  have hpne:(((2^l:Nat):Int) != 0)=true:=by
   have:((2^l:Nat):Int)≠0:=by omega
   exact fN.2 this
  have wP:IntKind.u64.wrap ((2^(l:Int).toNat:Nat):Int)=((2^l:Nat):Int):=by rw[vV];exact u64_in _ (by omega)
  obtain⟨low,hlow⟩:∃low,low=b%2^l:=⟨_,rfl⟩;have wlow:(b:Int).tmod ((2^l:Nat):Int)=(low:Int):=by rw[uG (by omega),hlow];push_cast;rfl
  obtain⟨f,hf⟩:∃f,n+1-l=f+1:=⟨n-l,by omega⟩;have hnx2:nxt cs b (n+1) 0=(if Ym cs cs.length l low≠0 then(1,(Ym cs cs.length l low:Int)-1,(l:Int))else if Ec cs l low then nxt cs b f (l+1)else(0,0,0)):=by rw[hnx,hf,nxt,hlow]
  refine⟨_,rfl,?_⟩;rw[wP,wlow];refine⟨hpne,fun us h''=>∃(s:Nat) (B:Bool),us=[.bool B,.int .i64 s]/\s<=ps.length/\(B=true<->Em cs s l low)/\(∀t,t<s->cs[t]? = some (l,low)->¬0<l)/\h''=h',fun us _=>ps.length-(toInt (us.getD 1 undef)).toNat,⟨0,false,rfl,by omega,⟨fun h=>(by cases h),fun⟨t,_,h,_⟩=>(by omega)⟩,fun t h=>by omega,rfl⟩,?_⟩;rintro B' x h'' ⟨s,B,hx2,hs,hB,hnone,rfl⟩;obtain⟨rfl,rfl⟩:B'=B/\x=s:=by simpa using hx2
  refine⟨fun hlt=>?_,fun hge=>?_⟩
  ·have hs3:s<ps.length:=by omega
   obtain⟨L,β,hp1,hc1,hL15,hβ⟩:=hcs s _ (vQ hs3);obtain⟨g1,g2,g3⟩:=hx.cell (vQ hs3);rw[hp1]at g1 g2;have w2:IntKind.i64.wrap ((s:Int)+1)=((s+1:Nat):Int):=z9;refine⟨by simpa using g3,by omega,hlt,(L:Int),(β:Int),⟨by simpa[add_add]using g1,by simpa[add_add]using g2⟩,fun hm=>?_,fun hm=>?_⟩
   ·have hm:L=l/\0<L/\β=low:=by simp at hm;omega
    obtain⟨rfl,hL0,rfl⟩:=hm;have hy:=YW U hc1 hL0 (m:=cs.length) (by omega);rw[hnx2,hy,vP (by omega)];refine⟨?_,rfl⟩;unfold Uy;simp only;rw[show((s+1:Nat):Int)-1=(s:Int) by omega]
   ·have hm:¬(L=l/\0<L/\β=low):=by
     rintro⟨rfl,hL0,rfl⟩;simp at hm;omega
    have hnone':∀t,t<s+1->cs[t]? = some (l,low)->¬0<l:=fun t ht hc=>by
     by_cases h:t=s
     ·subst h;rw[hc1]at hc;simp only[uZ,uV]at hc;intro h0;exact hm ⟨hc.1,by omega,hc.2⟩
     ·exact hnone t (by omega) hc
    have hms:(fun(us:List Value) (_:qaA)=>ps.length-(toInt (us.getD 1 undef)).toNat) [.bool B',.int .i64 (IntKind.i64.wrap ((s:Int)+1))] h''<(fun(us:List Value) (_:qaA)=>ps.length-(toInt (us.getD 1 undef)).toNat) [.bool B',.int .i64 s] h'':=by
     rw[w2];simp only[vB,vA,toInt_int];omega
    refine⟨fun hB0=>⟨fun hLl=>?_,fun hLl _=>?_⟩,fun hB1 _=>?_⟩
    ·have hB0:B'=false:=by simpa using hB0
     refine(Aq hi l).mono ?_;rintro _ hq ⟨rfl,eq⟩;rw[eq];refine⟨_,rfl,?_⟩;rw[wP];refine⟨hpne,fun _=>⟨?_,hms⟩⟩;have wβ:(β:Int).tmod ((2^l:Nat):Int)=((β%2^l:Nat):Int):=by rw[uG (by omega)];push_cast;rfl
     rw[wβ];refine⟨s+1,_,by rw[w2],by omega,?_,hnone',rfl⟩;rw[Gn hc1,<-hB,hB0];constructor
     ·intro h;have h2:((β%2^l:Nat):Int)=(low:Int):=uP.1 h;exact .inr ⟨by omega,by exact_mod_cast h2⟩
     ·rintro(h | ⟨_,h⟩)
      ·cases h
      ·rw[h];exact uP.2 rfl
    ·have hB0:B'=false:=by simpa using hB0
     refine⟨⟨s+1,_,by rw[w2],by omega,?_,hnone',rfl⟩,hms⟩;rw[Gn hc1,<-hB,hB0];simp;omega
    ·have hB1:B'=true:=by simpa using hB1
     refine⟨⟨s+1,_,by rw[w2],by omega,?_,hnone',rfl⟩,hms⟩;rw[Gn hc1,<-hB,hB1];simp
  ·obtain rfl:s=ps.length:=by omega
   have hY0:Ym cs cs.length l low=0:=Oc (by rw[hcl];exact hnone);rw[<-hcl,Oa]at hB;rw[hY0]at hnx2;simp only[ne_eq,not_true_eq_false,vY]at hnx2;refine⟨fun hB0=>?_,fun hB1=>?_⟩
   ·have hB0:B'=false:=by simpa using hB0
    rw[hB0]at hB;rw[hnx2,vM (fun h=>by have:=hB.2 h;cases this)];exact⟨rfl,rfl⟩
   ·have hB1:B'=true:=by simpa using hB1
    have hE:=hB.1 hB1;have hl:=Wb hM hE;have w2:IntKind.i64.wrap ((l:Int)+1)=((l+1:Nat):Int):=z9;rw[w2];refine⟨⟨l+1,rfl,by omega,by omega,?_,rfl⟩,by simp only[vA,toInt_int];omega⟩;rw[hnx2,vP hE];congr 1;omega
 ·have e:n+1-l=0:=by omega
  rw[hnx,e];exact⟨rfl,rfl⟩
end
variable {bs:List Int}{w:Bool}{ac:Option Addr}{cc lc:Nat}
section
structure Rd where
 i:Int
 k:Int
def tk(bs:List Int)(n:Nat)(r:Rd):Rd×Int:=
 if r.k=0 then if r.i+n>8*(bs.length:Int)then(⟨r.i,2⟩,0)else(⟨r.i+n,0⟩,yo bs r.i.toNat n)else(r,0)
def bd(w:Bool)(r:Rd):Rd:=if r.k=0/\w=true then⟨r.i,3⟩else r
def look(bs:List Int)(i:Nat):Nat:=min 15 (8*bs.length-i)
def nxB(bs:List Int)(cs:List (Nat×Nat))(i:Nat):Int×Int×Int:=nxt cs (yo bs i (look bs i)).toNat (look bs i+1) 0
def sy(bs:List Int)(cs:List (Nat×Nat))(r:Rd):Rd×Int:=
 if r.k=0 then(⟨r.i+(nxB bs cs r.i.toNat).2.2,if(nxB bs cs r.i.toNat).1=2 then 2 else if(nxB bs cs r.i.toNat).1=0 then 3 else 0⟩,(nxB bs cs r.i.toNat).2.1)else(r,0)
def okR(bs:List Int)(r:Rd):Prop:=r.k=0->0<=r.i/\r.i<=8*(bs.length:Int)
theorem yp{r:Rd}(H:okR bs r):okR bs (tk bs n r).1:=by
 unfold tk;by_cases h0:r.k=0
 ·rw[vP h0];have:=H h0;split
  ·intro h;cases h
  ·intro _;simp only;omega
 ·rw[vM h0];exact H
theorem yl{r:Rd}:0<=(tk bs n r).2/\(tk bs n r).2<2^n:=by
 have hp:(0:Int)<2^n:=nG (by decide);unfold tk;split
 ·split
  ·exact⟨by simp,hp⟩
  ·exact wW
 ·exact⟨by simp,hp⟩
theorem BI{r:Rd}(h:(tk bs n r).1.k=0):r.k=0:=by
 unfold tk at h;by_cases h0:r.k=0
 ·exact h0
 ·rw[vM h0]at h;exact absurd h h0
theorem jU{r:Rd}(H:okR bs r):okR bs (bd w r):=by
 unfold bd;split
 ·intro h;cases h
 ·exact H
theorem GZ{r:Rd}:(bd w r).k=0<->r.k=0/\w=false:=by
 unfold bd;split
 ·rename_i h;simp[h.2]
 ·rename_i h;by_cases h0:r.k=0
  ·simp only[h0,pL]at h ⊢;simpa using h
  ·simp[h0]
theorem zcy(hM:∀c∈cs,c.1<=15){l v:Nat}(h:Ec cs l v):l<15:=Wb hM h
theorem Pa{cs:List (Nat×Nat)}{b:Nat}:∀ {f l:Nat},True ->
  let x:=nxt cs b f l
  (x.1=1/\0<=x.2.1/\x.2.1<cs.length/\(l:Int)<=x.2.2/\x.2.2+1<=(l:Int)+f/\1<=x.2.2)\/((x.1=0\/x.1=2)/\x.2.1=0/\x.2.2=0)
 | 0,l,hy=>.inr ⟨.inr rfl,rfl,rfl⟩
 | f+1,l,hy=>by
  simp only[nxt];split
  ·rename_i hne;refine .inl ⟨rfl,?_⟩;obtain⟨s,hs,_,hl,e⟩:=Gl hne;simp only[e];refine⟨by omega,by omega,by omega,by push_cast;omega,by omega⟩
  ·split
   ·rcases Pa (cs:=cs) (b:=b) (f:=f) (l:=l+1) hy with⟨h1,h2,h3,h4,h5,h6⟩ | h
    ·exact .inl ⟨h1,h2,h3,by push_cast at h4;omega,by push_cast at h5 ⊢;omega,h6⟩
    ·exact .inr h
   ·exact .inr ⟨.inl rfl,rfl,rfl⟩
theorem Bd :
  ((nxB bs cs i).1=1/\0<=(nxB bs cs i).2.1/\(nxB bs cs i).2.1<cs.length/\1<=(nxB bs cs i).2.2/\(nxB bs cs i).2.2<=look bs i)\/(((nxB bs cs i).1=0\/(nxB bs cs i).1=2)/\(nxB bs cs i).2.1=0/\(nxB bs cs i).2.2=0):=by
 rcases Pa (cs:=cs) (b:=(yo bs i (look bs i)).toNat) (f:=look bs i+1) (l:=0) trivial with⟨h1,h2,h3,h4,h5,h6⟩ | h
 ·exact .inl ⟨h1,h2,h3,h6,by unfold nxB;omega⟩
 ·exact .inr h
theorem Cv{r:Rd}(H:okR bs r):okR bs (sy bs cs r).1:=by
 unfold sy;by_cases h0:r.k=0
 ·rw[vP h0];have:=H h0;intro hk;simp only at hk ⊢;rcases Bd (bs:=bs) (cs:=cs) (i:=r.i.toNat)with⟨h1,h2,h3,h4,h5⟩ | ⟨_,_,h⟩
  ·unfold look at h5;omega
  ·omega
 ·rw[vM h0];exact H
theorem zdh{r:Rd}(h:(sy bs cs r).1.k=0):r.k=0/\r.i+1<=(sy bs cs r).1.i/\0<=(sy bs cs r).2/\(sy bs cs r).2<cs.length:=by
 unfold sy at h ⊢;by_cases h0:r.k=0
 ·rw[vP h0]at h ⊢;simp only at h ⊢;rcases Bd (bs:=bs) (cs:=cs) (i:=r.i.toNat)with⟨h1,h2,h3,h4,h5⟩ | ⟨h1,_,_⟩
  ·exact⟨h0,by omega,h2,h3⟩
  ·rcases h1 with h1 | h1 <;> simp[h1]at h
 ·rw[vM h0]at h;exact absurd h h0
def rdV(a:Option Addr)(c:Nat)(bs:List Int)(r:Rd):Value:=.agg #[.slice a bs.length c,.int .i64 r.i,.int .i64 r.k]
theorem xB(hi:qaC S h)(a:Option Addr)(c:Nat)(bs:List Int)(r:Rd)(w:Bool) :
  zb oPP S yu #[rdV a c bs r,.bool w] h (fun v h'=>v=rdV a c bs (bd w r)/\h'=h):=by
 refine NJ (vs:=[.slice a bs.length c,.int .i64 r.i,.int .i64 r.k,.bool w]) ⟨rfl,rfl,rfl,rfl,trivial⟩ hi ?_;simp only[I2,Tr.wp,Ex.ev,coerce,toInt_int,za,zd,zi,ze,xu,kp,zB,Cst.val,SV.den,vA,vB,vD,vE,uA];obtain⟨i,k⟩:=r;unfold bd rdV;by_cases h0:k=0
 ·subst h0;cases w <;> simp
 ·simp[h0]
theorem yA(hi:qaC S h)(hx:zk h .u8 a bs)(L:bs.length<=1048576)(r:Rd)(ok:okR bs r)(n:Nat)(hn:n<=32:=by omega) :
  zb oPP S zQ #[rdV a c bs r,.int .i64 n] h (fun v h'=>v=.tuple #[rdV a c bs (tk bs n r).1,.int .i64 (tk bs n r).2]/\h'=h):=by
 refine Mq (vs:=[.slice a bs.length c,.int .i64 r.i,.int .i64 r.k,.int .i64 n]) ⟨rfl,rfl,rfl,rfl,trivial⟩ hi ?_;simp only[Hv,Tr.wp,z8,Ex.ev,coerce,toInt_int,za,zd,zi,ze,xu,kp,zB,arith,Cst.val,SV.den,zq,zK,zz,zm,zl,zw,zY,vF,vG,vA,vB,vC,vT,vO,vU,vD,vE,vJ,vI,vK,uA,uJ,vY,vL];obtain⟨i,k⟩:=r;simp only at ok ⊢;have w8:IntKind.i64.wrap (8*(bs.length:Int))=8*(bs.length:Int):=i64_in _ (by omega);rw[w8];by_cases hk:k=0
 ·subst hk;have ok:=ok rfl;simp only at ok;have w1:IntKind.i64.wrap (i+(n:Int))=i+(n:Int):=i64_in _ (by omega);have w2:IntKind.i64.wrap ((n:Int)-1)=(n:Int)-1:=i64_in _ (by omega);rw[w1,w2];by_cases hs:i+(n:Int)>8*(bs.length:Int)
  ·have e:tk bs n ⟨i,0⟩=(⟨i,2⟩,0):=by unfold tk;rw[vP rfl,vP hs]
   rw[e];simp[hs,rdV]
  ·have e:tk bs n ⟨i,0⟩=(⟨i+n,0⟩,yo bs i.toNat n):=by unfold tk;rw[vP rfl,vM hs]
   rw[e];simp only[hs,rdV];refine⟨fun hne=>by simp at hne,fun _=>?_⟩;refine⟨fun us h'=>∃j:Nat,us=[.int .i64 (yo bs (i.toNat+j) (n-j)),.int .i64 ((j:Int)-1)]/\j<=n/\h'=h,fun us _=>(toInt (us.getD 1 undef)+1).toNat,⟨n,?_,by omega,rfl⟩,?_⟩
   ·rw[mS];rfl
   rintro x y h' ⟨j,hx1,hj,rfl⟩;obtain⟨rfl,rfl⟩:x=yo bs (i.toNat+j) (n-j)/\y=(j:Int)-1:=by simpa using hx1
   refine⟨fun hge=>?_,fun hlt=>?_⟩
   ·obtain⟨m,rfl⟩:∃m,j=m+1:=⟨j-1,by omega⟩;have w3:IntKind.i64.wrap (i+(((m+1:Nat):Int)-1))=((i.toNat+m:Nat):Int):=z9;rw[w3];refine(Tf hi a c bs (i.toNat+m) hx L).mono ?_;rintro _ hq ⟨rfl,rfl⟩;obtain⟨k,hk⟩:∃k,n-(m+1)=k:=⟨_,rfl⟩;have hk2:n-m=k+1:=by omega
    have lt:=wW (xs:=bs) (a:=i.toNat+(m+1)) (n:=k);have hp:(2:Int)^k<=2^32:=by
     rw[yG,yG];exact_mod_cast uX (by decide) (by omega)
    have hp32:(2:Int)^32=4294967296:=by decide
    have hbit:=Ce (xs:=bs) (i:=i.toNat+m);rw[hk];have w4:IntKind.i64.wrap (2*yo bs (i.toNat+(m+1)) k)=2*yo bs (i.toNat+(m+1)) k:=i64_in _ (by omega);have w4b:IntKind.i64.wrap (yN bs (i.toNat+m))=yN bs (i.toNat+m):=i64_in _ (by omega);have w5:IntKind.i64.wrap (2*yo bs (i.toNat+(m+1)) k+yN bs (i.toNat+m))=yo bs (i.toNat+m) (k+1):=by
     rw[i64_in _ (by omega),VG,mJ]
    have w6:IntKind.i64.wrap (((m+1:Nat):Int)-1-1)=(m:Int)-1:=z9;refine⟨_,rfl,⟨m,?_,by omega,rfl⟩,?_⟩
    ·rw[hk2,w4,w4b,w5,w6]
    ·rw[w6];simp only[vB,vA,toInt_int];omega
   ·obtain rfl:j=0:=by omega
    exact⟨rfl,rfl⟩
 ·have e:tk bs n ⟨i,k⟩=(⟨i,k⟩,0):=by unfold tk;rw[vM hk]
  rw[e];simp[hk,rdV]
structure CodesAt(h:qaA)(a:Option Addr)(l:Nat)(cs:List (Nat×Nat)):Prop where
 hx:∃ps:List (Int×Int),kN h a ps/\ps.length=l/\cs.length=ps.length/\∀(j:Nat) p,ps[j]? = some p->∃l b:Nat,p=((l:Int),(b:Int))/\cs[j]? = some (l,b)/\l<=15/\b<2^l
 un:uniq cs
 ll:l<=1000
theorem CodesAt.sub(H:CodesAt h a l cs)(s:qaB h h'):CodesAt h' a l cs:=by
 obtain⟨⟨ps,h1,h2⟩,h3,h4⟩:=H;exact⟨⟨ps,h1.sub s,h2⟩,h3,h4⟩
theorem Tj:look bs i<=15:=by unfold look;omega
theorem Oe(hi:qaC S h)(hx:zk h .u8 a bs)(L:bs.length<=1048576)(r:Rd)(ok:okR bs r)(C:r.k=0->CodesAt h ac lc cs) :
  zb oPP S Af #[rdV a c bs r,.slice ac lc cc] h (fun v h'=>v=.tuple #[rdV a c bs (sy bs cs r).1,.int .i64 (sy bs cs r).2]/\h'=h):=by
 refine NN (vs:=[.slice a bs.length c,.int .i64 r.i,.int .i64 r.k,.slice ac lc cc]) ⟨rfl,rfl,rfl,rfl,trivial⟩ hi ?_;simp only[I7,Tr.wp,z8,Ex.ev,coerce,toInt_int,za,zd,zi,ze,xu,kp,zB,arith,Cst.val,SV.den,zq,zK,zz,zm,zl,zw,zY,vF,vG,vA,vB,vC,vT,vO,vD,vE,vJ,vI,vK,uE,uA,uJ,vY,vL];obtain⟨i,k⟩:=r;simp only at ok C ⊢;by_cases hk:k=0
 ·subst hk;have ok:=ok rfl;simp only at ok;refine⟨fun hne=>by simp at hne,fun _=>?_⟩;obtain⟨m,rfl⟩:=vZ ok.1;have w8:IntKind.i64.wrap (8*(bs.length:Int))=8*(bs.length:Int):=i64_in _ (by omega);rw[w8];refine⟨fun us h'=>∃j:Nat,us=[.int .u64 (yo bs m j),.int .i64 j]/\j<=look bs m/\h'=h,fun us _=>15-(toInt (us.getD 1 undef)).toNat,⟨0,rfl,by omega,rfl⟩,?_⟩;rintro x y h' ⟨j,hx1,hj,rfl⟩;obtain⟨rfl,rfl⟩:x=yo bs m j/\y=j:=by simpa using hx1
  have hj15:=Tj (bs:=bs) (i:=m);have w1:IntKind.i64.wrap ((m:Int)+(j:Int))=((m+j:Nat):Int):=z9;rw[w1];refine⟨fun hlt=>?_,fun hge=>?_⟩
  ·have hlt:j<15/\((m+j:Nat):Int)<8*(bs.length:Int):=by simp at hlt;omega
   refine(Tf hi a c bs (m+j) hx L).mono ?_;rintro _ hq ⟨rfl,rfl⟩;have hbit:=Ce (xs:=bs) (i:=m+j);have lt:=wW (xs:=bs) (a:=m) (n:=j);have hp:(2:Int)^j<=2^15:=by
    rw[yG,yG];exact_mod_cast uX (by decide) (by omega)
   have hp15:(2:Int)^15=32768:=by decide
   have wu:IntKind.u64.wrap (j:Int)=j:=u64_in _ (by omega);have m64:min (j:Int).toNat IntKind.u64.bits=j:=by
    have:IntKind.u64.bits=64:=rfl;rw[this];omega
   rw[wu,m64];have hb01:yN bs (m+j)=0\/yN bs (m+j)=1:=by omega
   have wm:IntKind.u64.wrap (yN bs (m+j)*2^j)=yN bs (m+j)*2^j:=by
    rcases hb01 with e | e <;> rw[e] <;> exact u64_in _ (by omega)
   have wa:IntKind.u64.wrap (yo bs m j+yN bs (m+j)*2^j)=yo bs m (j+1):=by
    rw[yo];rcases hb01 with e | e <;> rw[e] <;> exact u64_in _ (by omega)
   have w2:IntKind.i64.wrap ((j:Int)+1)=((j+1:Nat):Int):=z9;refine⟨yN bs (m+j),rfl,by omega,?_⟩;rw[wm,wa,w2];exact⟨⟨j+1,rfl,by unfold look;omega,rfl⟩,by simp only[vB,vA,toInt_int];omega⟩
  ·have hge:¬(j<15/\((m+j:Nat):Int)<8*(bs.length:Int)):=by simp at hge;omega
   have hjl:j=look bs m:=by unfold look at hj ⊢;omega
   obtain⟨⟨ps,c1,c2,c3,c4⟩,c5,c6⟩:=C rfl;subst c2;have lt:=wW (xs:=bs) (a:=m) (n:=j);have hp:(2:Int)^j<=2^15:=by
    rw[yG,yG];exact_mod_cast uX (by decide) (by omega)
   have hp15:(2:Int)^15=32768:=by decide
   obtain⟨b,hb⟩:=vZ lt.1;rw[hb];refine(XZ hi ac cc ps cs c1 (by omega) c3 c4 c5 b j (by omega) (by omega)).mono ?_;rintro _ hq ⟨rfl,rfl⟩;have eN:nxt cs b (j+1) 0=nxB bs cs m:=by unfold nxB;rw[<-hjl,hb];rfl
   rw[eN];refine⟨_,_,_,rfl,?_⟩;have eS:sy bs cs ⟨(m:Int),0⟩=(⟨(m:Int)+(nxB bs cs m).2.2,if(nxB bs cs m).1=2 then 2 else if(nxB bs cs m).1=0 then 3 else 0⟩,(nxB bs cs m).2.1):=by unfold sy;rw[vP rfl];rfl
   rw[eS];have F:=Bd (bs:=bs) (cs:=cs) (i:=m);generalize nxB bs cs m=x at F ⊢;obtain⟨kx,sx,lx⟩:=x;simp only at F ⊢;have wl:IntKind.i64.wrap ((m:Int)+lx)=(m:Int)+lx:=i64_in _ (by omega);have e2:(if(kx==2)=true then(2:Int)else 0)=(⟨(m:Int),if kx=2 then 2 else 0⟩:Rd).k:=by by_cases h:kx=2 <;> simp[h]
   rw[e2];refine(xB hi a c bs ⟨(m:Int),if kx=2 then 2 else 0⟩ (kx==0)).mono ?_;rintro _ hq2 ⟨rfl,rfl⟩;have e3:bd (kx==0) ⟨(m:Int),if kx=2 then 2 else 0⟩=⟨(m:Int),if kx=2 then 2 else if kx=0 then 3 else 0⟩:=by
    unfold bd;by_cases h2:kx=2
    ·subst h2;simp
    ·by_cases h0:kx=0
     ·subst h0;simp
     ·simp[h2,h0]
   rw[e3];exact⟨_,_,_,_,_,rfl,by rw[wl];exact⟨rfl,rfl⟩⟩
 ·have e:sy bs cs ⟨i,k⟩=(⟨i,k⟩,0):=by unfold sy;rw[vM hk]
  rw[e];simp[hk,rdV]
end
variable {r:Rd}{all:List Int}{ca tot:Nat}{h0:qaA}{aa:Option Addr}
section
theorem Rf:∀m,Ym cs m 0 0=0
 | 0=>rfl
 | m+1=>by rw[Ym,vM (fun h=>by omega)];exact Rf m
def rp(bs:List Int)(r:Rd)(all:List Int)(x:Int):Rd×List Int:=
 if x=16 then((tk bs 2 (bd (all.length==0) r)).1,if(tk bs 2 (bd (all.length==0) r)).1.k=0 then all++List.replicate ((tk bs 2 (bd (all.length==0) r)).2+3).toNat (all.getD (all.length-1) 0)else all)
 else if x=17 then((tk bs 3 r).1,if(tk bs 3 r).1.k=0 then all++List.replicate ((tk bs 3 r).2+3).toNat 0 else all)
 else if x=18 then((tk bs 7 r).1,if(tk bs 7 r).1.k=0 then all++List.replicate ((tk bs 7 r).2+11).toNat 0 else all)
 else(r,if r.k=0 then all++[x]else all)
theorem zcz(H:okR bs r):okR bs (rp bs r all x).1:=by
 unfold rp;split
 ·exact yp (jU H)
 ·split
  ·exact yp H
  ·split
   ·exact yp H
   ·exact H
theorem zbh:all.length<=(rp bs r all x).2.length/\(rp bs r all x).2.length<=all.length+138/\((rp bs r all x).1.k=0->all.length<(rp bs r all x).2.length):=by
 have h2:=yl (bs:=bs) (n:=2) (r:=bd (all.length==0) r);have h3:=yl (bs:=bs) (n:=3) (r:=r);have h7:=yl (bs:=bs) (n:=7) (r:=r);have e2:(2:Int)^2=4:=by decide
 have e3:(2:Int)^3=8:=by decide
 have e7:(2:Int)^7=128:=by decide
 unfold rp;split
 ·split
  ·simp only[vR,pI];exact⟨by omega,by omega,fun _=>by omega⟩
  ·rename_i hk;exact⟨uN _,fO _ _,fun h=>absurd h hk⟩
 ·split
  ·split
   ·simp only[vR,pI];exact⟨by omega,by omega,fun _=>by omega⟩
   ·rename_i hk;exact⟨uN _,fO _ _,fun h=>absurd h hk⟩
  ·split
   ·split
    ·simp only[vR,pI];exact⟨by omega,by omega,fun _=>by omega⟩
    ·rename_i hk;exact⟨uN _,fO _ _,fun h=>absurd h hk⟩
   ·split
    ·simp only[vR,uD];exact⟨by omega,by omega,fun _=>by omega⟩
    ·rename_i hk;exact⟨uN _,fO _ _,fun h=>absurd h hk⟩
def lg1(bs:List Int)(cs:List (Nat×Nat))(tot:Nat)(r:Rd)(all:List Int):Rd×List Int:=
 if(sy bs cs r).1.k=0 then(bd (decide (tot<(rp bs (sy bs cs r).1 all (sy bs cs r).2).2.length)) (rp bs (sy bs cs r).1 all (sy bs cs r).2).1,(rp bs (sy bs cs r).1 all (sy bs cs r).2).2)else((sy bs cs r).1,all)
def lg(bs:List Int)(cs:List (Nat×Nat))(tot:Nat)(r:Rd)(all:List Int):Rd×List Int:=
 if h:r.k=0/\all.length<tot then
  if h2:all.length<(lg1 bs cs tot r all).2.length then lg bs cs tot (lg1 bs cs tot r all).1 (lg1 bs cs tot r all).2 else lg1 bs cs tot r all
 else(r,all)
termination_by tot-all.length
theorem Rh(H:okR bs r):okR bs (lg1 bs cs tot r all).1:=by
 unfold lg1;split
 ·exact jU (zcz (Cv H))
 ·exact Cv H
theorem Ck:all.length<=(lg1 bs cs tot r all).2.length/\(lg1 bs cs tot r all).2.length<=all.length+138/\((lg1 bs cs tot r all).1.k=0->all.length<(lg1 bs cs tot r all).2.length/\(lg1 bs cs tot r all).2.length<=tot):=by
 have R:=zbh (bs:=bs) (r:=(sy bs cs r).1) (all:=all) (x:=(sy bs cs r).2);unfold lg1;split
 ·refine⟨R.1,R.2.1,fun h=>?_⟩;obtain⟨h1,h2⟩:=GZ.1 h;exact⟨R.2.2 h1,by simpa using h2⟩
 ·rename_i hk;exact⟨by simp,by simp,fun h=>absurd h hk⟩
theorem DL(h:r.k=0/\all.length<tot):lg bs cs tot r all=lg bs cs tot (lg1 bs cs tot r all).1 (lg1 bs cs tot r all).2:=by
 rw[lg,dif_pos h];split
 ·rfl
 ·rename_i h2;have:=Ck (bs:=bs) (cs:=cs) (tot:=tot) (r:=r) (all:=all);have hk:(lg1 bs cs tot r all).1.k≠0:=fun e=>h2 (this.2.2 e).1
  rw[lg,dif_neg (fun e=>hk e.1)]
theorem j5(h:¬(r.k=0/\all.length<tot)):lg bs cs tot r all=(r,all):=by rw[lg,dif_neg h]
def ord:List Nat:=[16,17,18,0,8,7,9,6,10,5,11,4,12,3,13,2,14,1,15]
def sm(bs:List Int)(r:Rd):Nat->Rd×List Int
 | 0=>(r,List.replicate 19 0)
 | k+1=>((tk bs 3 (sm bs r k).1).1,(sm bs r k).2.set (ord.getD k 0) (tk bs 3 (sm bs r k).1).2)
theorem Qo(H:okR bs r):∀ {k:Nat},okR bs (sm bs r k).1
 | 0=>H
 | k+1=>yp (Qo H)
theorem IY:∀ {k:Nat},(sm bs r k).2.length=19
 | 0=>by simp[sm]
 | k+1=>by simp only[sm,uR];exact IY
def xV(bs:List Int)(r:Rd):Rd:=bd (decide ((tk bs 5 r).2+257>286)) (tk bs 5 r).1
def kQ(bs:List Int)(r:Rd):Rd:=bd (decide ((tk bs 5 (xV bs r)).2+1>30)) (tk bs 5 (xV bs r)).1
def xn(bs:List Int)(r:Rd):Rd×List Int:=sm bs (tk bs 4 (kQ bs r)).1 ((tk bs 4 (kQ bs r)).2.toNat+4)
def Ha(bs:List Int)(r:Rd):Rd:=bd (zu (xn bs r).2 != 1) (xn bs r).1
def Dr(bs:List Int)(r:Rd):Nat:=((tk bs 5 r).2+257).toNat
def J8(bs:List Int)(r:Rd):Nat:=((tk bs 5 (xV bs r)).2+1).toNat
def qk(bs:List Int)(r:Rd):Rd×List Int:=lg bs (zn (xn bs r).2) (Dr bs r+J8 bs r) (Ha bs r) []
def Hb(A B:List Int):Bool:=(A.getD 256 0==0) || !(zu A==1||zu A==4) || !(zu B==1||zu B==4||zu B==5)
def ym(bs:List Int)(r:Rd):Rd×List Int×List Int:=
 if(qk bs r).1.k=0 then(bd (Hb ((qk bs r).2.take (Dr bs r)) ((qk bs r).2.drop (Dr bs r))) (qk bs r).1,(qk bs r).2.take (Dr bs r),(qk bs r).2.drop (Dr bs r))
 else((qk bs r).1,[],[])
theorem YY{bs:List Int}{cs:List (Nat×Nat)}{tot:Nat}:∀ {n:Nat} {r:Rd} {all:List Int},tot-all.length<=n->okR bs r->okR bs (lg bs cs tot r all).1
 | 0,r,all,hn,H=>by rw[j5 (fun e=>by omega)];exact H
 | n+1,r,all,hn,H=>by
  by_cases h:r.k=0/\all.length<tot
  ·rw[DL h];by_cases hk:(lg1 bs cs tot r all).1.k=0
   ·have:=(Ck (bs:=bs) (cs:=cs) (tot:=tot) (r:=r) (all:=all)).2.2 hk;exact YY (n:=n) (by omega) (Rh H)
   ·rw[j5 (fun e=>hk e.1)];exact Rh H
  ·rw[j5 h];exact H
theorem J9(H:okR bs r):okR bs (xV bs r)/\okR bs (kQ bs r)/\okR bs (xn bs r).1/\okR bs (Ha bs r)/\okR bs (qk bs r).1:=by
 have h0:okR bs (xV bs r):=jU (yp H);have h1:okR bs (kQ bs r):=jU (yp h0);have h2:okR bs (xn bs r).1:=Qo (yp h1);have h3:okR bs (Ha bs r):=jU h2;exact⟨h0,h1,h2,h3,YY (uN _) h3⟩
theorem MF(hi:qaC S h)(a:Option Addr)(c:Nat)(xs:List Int)(hx:zk h .i64 a xs)(p q s:Int) :
  zb oPP S wN #[.slice a xs.length c,.int .i64 p,.int .i64 q,.int .i64 s] h (fun v h'=>v=.bool (zu xs==p||zu xs==q||zu xs==s)/\h'=h):=by
 refine JW (vs:=[.slice a xs.length c,.int .i64 p,.int .i64 q,.int .i64 s]) ⟨rfl,rfl,rfl,rfl,trivial⟩ hi ?_;simp only[EW,Tr.wp,z8,Ex.ev,coerce,toInt_int,za,zd,zi,ze,j7,zB,Cst.val,SV.den,zq,zK,zz,zm,zl,zw,vF,vG,vA,vB,vD,vE,vJ,vI,vK,vY,vL];refine(BF hi a c xs hx).mono ?_;rintro _ hq ⟨rfl,rfl⟩;refine⟨_,rfl,?_,rfl⟩;congr 1;cases (zu xs==p) <;> cases (zu xs==q) <;> rfl
theorem Wc(hi:qaC S h):zb oPP S Ci #[] h (fun v h'=>∃b T,h b=none/\v=.slice (some ⟨b,0,none⟩) 19 19/\h'=upd h b (.cells (ints .i64 (ord.map Int.ofNat)) T)):=by
 refine KU (vs:=[]) trivial hi ?_;simp only[FV,Tr.wp,Ex.ev,coerce,zd,zi,ze,Cst.val,SV.den,vA,vD,vE,vI];intro b hb;exact⟨b,_,hb,rfl,rfl⟩
theorem EB(hi:qaC S h0)(s0:qaB h0 h)(P:Part .i64 h (.slice aa all.length ca) all)(N:qaD h0 (.slice aa all.length ca))(hl:all.length<=1000)(t:Nat)(ht:t<=1000)(w k:Int){G:Value->qaA->Prop}
  (hG:∀a l c h',Part .i64 h' (.slice a l c) (if k=0 then all++List.replicate t w else all)->qaD h0 (.slice a l c)->qaB h0 h'->G (.slice a l c) h') :
  ∃(I:List Value->qaA->Prop) (μ:List Value->qaA->Nat),I [.slice aa all.length ca,.int .i64 0] h /\
   ∀(a_1:Option Addr) (l c_1:Nat) (x_1:Int) (h':qaA),I [.slice a_1 l c_1,.int .i64 x_1] h' ->
    ((decide (x_1<(t:Int))&&k==0)=true->∀(b:Nat),h' b=none ->
     appW S 2 1 8 [.int .i64 0] (.slice a_1 l c_1) (.slice (some ⟨b,0,none⟩) 1 1) (upd h' b (.cells #[.int .i64 w] 2)) fun v h'_1=>
      I [.slice (slA v) (slL v) (slC v),.int .i64 (IntKind.i64.wrap (x_1+1))] h'_1/\μ [.slice (slA v) (slL v) (slC v),.int .i64 (IntKind.i64.wrap (x_1+1))] h'_1<μ [.slice a_1 l c_1,.int .i64 x_1] h') /\
    ((decide (x_1<(t:Int))&&k==0)=false->G (.slice a_1 l c_1) h'):=by
 refine⟨fun us h'=>∃(i:Nat) (a:Option Addr) (c:Nat),us=[.slice a (all.length+i) c,.int .i64 i]/\i<=t/\(k≠0->i=0)/\Part .i64 h' (.slice a (all.length+i) c) (all++List.replicate i w)/\qaD h0 (.slice a (all.length+i) c)/\qaB h0 h',
  fun us _=>t-(toInt (us.getD 1 undef)).toNat,⟨0,aa,ca,by simp,by omega,fun _=>rfl,by simpa using P,by simpa using N,s0⟩,?_⟩
 rintro a1 l1 c1 y h' ⟨i,a2,c2,hx1,hi2,hk0,P2,N2,s2⟩;simp only[uQ,uT,pA,pL,uA]at hx1;obtain⟨⟨rfl,rfl,rfl⟩,rfl⟩:=hx1;refine⟨fun hlt b hnb=>?_,fun hge=>?_⟩
 ·have hlt:i<t/\k=0:=by simp at hlt;omega
  have w2:IntKind.i64.wrap ((i:Int)+1)=((i+1:Nat):Int):=z9;have sb:qaB h' (upd h' b (.cells (ints .i64 [w]) 2)):=Sub.zx hnb;have hlen:(all++List.replicate i w).length=all.length+i:=by simp
  refine zI (xs:=all++List.replicate i w) (a:=some ⟨b,0,none⟩) (c:=1) hi (s2.trans sb) (P2.sub sb) N2 (ys:=[w]) zk.new (by rw[hlen];simp only[uD];omega) fun v' h3 o n3 s4 _ _=>?_
  have el:(all++List.replicate i w)++[w]=all++List.replicate (i+1) w:=by rw[vX,gS]
  rw[el]at o;obtain⟨a4,c4,rfl,_,_⟩:=o.ints;have hlen2:(all++List.replicate (i+1) w).length=all.length+(i+1):=by simp
  rw[hlen2]at o n3;simp only[ze,zd,zi,w2,hlen2];exact⟨⟨i+1,a4,c4,rfl,by omega,fun h=>absurd hlt.2 h,o,n3,s4⟩,by simp only[vB,vA,toInt_int,vV];omega⟩
 ·have hge:¬(i<t/\k=0):=by simp at hge;omega
  refine hG _ _ _ _ ?_ N2 s2;by_cases h0:k=0
  ·rw[vP h0];obtain rfl:i=t:=by omega
   exact P2
  ·rw[vM h0];obtain rfl:=hk0 h0;simpa using P2
theorem Uz(hi:qaC S h0)(s0:qaB h0 h)(hx:zk h0 .u8 a bs)(L:bs.length<=1048576)(r:Rd)(ok:okR bs r)
  (P:Part .i64 h (.slice aa all.length ca) all)(N:qaD h0 (.slice aa all.length ca))(hl:all.length<=1000)(x:Int) :
  zb oPP S Bx #[rdV a c bs r,.slice aa all.length ca,.int .i64 x] h (fun v h'=>∃u,v=.tuple #[rdV a c bs (rp bs r all x).1,u]/\Part .i64 h' u (rp bs r all x).2/\qaD h0 u/\qaB h0 h'):=by
 refine JV (vs:=[.slice a bs.length c,.int .i64 r.i,.int .i64 r.k,.slice aa all.length ca,.int .i64 x]) ⟨rfl,rfl,rfl,rfl,rfl,trivial⟩ (hi.sub s0) ?_;simp only[EV,Tr.wp,z8,Ex.ev,coerce,toInt_int,za,zd,zi,ze,zj,yg,xu,zB,arith,Cst.val,SV.den,zq,zK,zz,zm,zl,zw,zY,zr,vF,vG,vA,vB,vC,vT,vO,vD,vE,vJ,vI,vK,uB,uF,uE,uA,uJ,vY,vL];have hxh:=hx.sub s0;have fin:∀(r':Rd) (t:Nat) (w:Int),rp bs r all x=(r',if r'.k=0 then all++List.replicate t w else all)->∀a' l' c' h',Part .i64 h' (.slice a' l' c') (if r'.k=0 then all++List.replicate t w else all)->qaD h0 (.slice a' l' c')->qaB h0 h' ->
   ∃u,Value.tuple #[rdV a c bs r',.slice a' l' c']=.tuple #[rdV a c bs (rp bs r all x).1,u]/\Part .i64 h' u (rp bs r all x).2/\qaD h0 u/\qaB h0 h':=by
  intro r' t w e a' l' c' h' p n s;rw[e];exact⟨_,rfl,p,n,s⟩
 by_cases h16:x=16
 ·refine⟨fun _=>?_,fun e=>by simp[h16]at e⟩;have eb:((all.length:Int)==0)=(all.length==0):=by
   by_cases h:all.length=0
   ·rw[h];rfl
   ·have:¬(all.length:Int)=0:=by omega
    rw[beq_eq_false_iff_ne.2 this,beq_eq_false_iff_ne.2 h]
  rw[eb];refine(xB (hi.sub s0) a c bs r (all.length==0)).mono ?_;rintro _ h1 ⟨rfl,rfl⟩;refine⟨_,_,_,_,_,rfl,?_⟩;refine(yA (hi.sub s0) hxh L (bd (all.length==0) r) (jU ok) 2).mono ?_;rintro _ h1 ⟨rfl,rfl⟩;refine⟨_,_,_,_,_,_,rfl,?_⟩;have tn:=yl (bs:=bs) (n:=2) (r:=bd (all.length==0) r);have e2:(2:Int)^2=4:=by decide
  have hrp:rp bs r all x=((tk bs 2 (bd (all.length==0) r)).1,if(tk bs 2 (bd (all.length==0) r)).1.k=0 then all++List.replicate ((tk bs 2 (bd (all.length==0) r)).2+3).toNat (all.getD (all.length-1) 0)else all):=by unfold rp;rw[vP h16]
  obtain⟨t,ht⟩:=vZ tn.1;have wt:IntKind.i64.wrap ((tk bs 2 (bd (all.length==0) r)).2+3)=((t+3:Nat):Int):=by rw[ht,i64_in _ (by omega)];omega
  have et:((tk bs 2 (bd (all.length==0) r)).2+3).toNat=t+3:=by omega
  rw[et]at hrp;have h17:x≠17:=by omega
  have h18:x≠18:=by omega
  refine⟨fun hk=>?_,fun hk=>fun _ _=>⟨fun e=>absurd (uP.1 e) h17,fun _ _=>⟨fun e=>absurd (uP.1 e) h18,fun _ _=>?_⟩⟩⟩
  ·have hk:(tk bs 2 (bd (all.length==0) r)).1.k=0:=uP.1 hk;have hne:all.length≠0:=by have:=(GZ.1 (BI hk)).2;simpa using this
   have wl:IntKind.i64.wrap ((all.length:Int)-1)=((all.length-1:Nat):Int):=z9;have hlt:all.length-1<all.length:=by omega
   obtain⟨_,_,ei,_,gi⟩:=P.ints;cases ei
   obtain⟨g1,g2⟩:=gi.cell (vQ hlt);rw[wl];refine⟨by simpa using g2,by omega,by omega,all[all.length-1],by simp only[vV,pY,add_add,uI];exact g1,fun _ _=>⟨fun e=>absurd (uP.1 e) h17,fun _ _=>⟨fun e=>absurd (uP.1 e) h18,fun _ _=>?_⟩⟩⟩;rw[wt];have eg:all.getD (all.length-1) 0=all[all.length-1]:=by simp[List.getD,vQ hlt]
   rw[eg]at hrp;exact EB hi s0 P N hl (t+3) (by omega) all[all.length-1] (tk bs 2 (bd (all.length==0) r)).1.k (G:=fun v h'=>∃u,Value.tuple #[rdV a c bs (tk bs 2 (bd (all.length==0) r)).1,v]=.tuple #[rdV a c bs (rp bs r all x).1,u]/\Part .i64 h' u (rp bs r all x).2/\qaD h0 u/\qaB h0 h') (fin (tk bs 2 (bd (all.length==0) r)).1 (t+3) all[all.length-1] hrp)
  ·have hk:(tk bs 2 (bd (all.length==0) r)).1.k≠0:=fun e=>by simp[e]at hk
   rw[wt];have hrp2:rp bs r all x=((tk bs 2 (bd (all.length==0) r)).1,if(tk bs 2 (bd (all.length==0) r)).1.k=0 then all++List.replicate (t+3) x else all):=by rw[hrp,vM hk,vM hk]
   exact EB hi s0 P N hl (t+3) (by omega) x (tk bs 2 (bd (all.length==0) r)).1.k (G:=fun v h'=>∃u,Value.tuple #[rdV a c bs (tk bs 2 (bd (all.length==0) r)).1,v]=.tuple #[rdV a c bs (rp bs r all x).1,u]/\Part .i64 h' u (rp bs r all x).2/\qaD h0 u/\qaB h0 h') (fin (tk bs 2 (bd (all.length==0) r)).1 (t+3) x hrp2)
 by_cases h17:x=17
 ·refine⟨fun e=>absurd (uP.1 e) h16,fun _ _=>⟨fun _=>?_,fun e=>by simp[h17]at e⟩⟩;refine(yA (hi.sub s0) hxh L r ok 3).mono ?_;rintro _ h1 ⟨rfl,rfl⟩;have tn:=yl (bs:=bs) (n:=3) (r:=r);have e2:(2:Int)^3=8:=by decide
  have hrp:rp bs r all x=((tk bs 3 r).1,if(tk bs 3 r).1.k=0 then all++List.replicate ((tk bs 3 r).2+3).toNat 0 else all):=by unfold rp;rw[vM h16,vP h17]
  obtain⟨t,ht⟩:=vZ tn.1;have wt:IntKind.i64.wrap ((tk bs 3 r).2+3)=((t+3:Nat):Int):=by rw[ht,i64_in _ (by omega)];omega
  have et:((tk bs 3 r).2+3).toNat=t+3:=by omega
  rw[et]at hrp;refine⟨_,_,_,_,_,_,rfl,fun _=>⟨fun e=>absurd (uP.1 e) (by omega),fun _ _=>?_⟩⟩;rw[wt];exact EB hi s0 P N hl (t+3) (by omega) 0 (tk bs 3 r).1.k (G:=fun v h'=>∃u,Value.tuple #[rdV a c bs (tk bs 3 r).1,v]=.tuple #[rdV a c bs (rp bs r all x).1,u]/\Part .i64 h' u (rp bs r all x).2/\qaD h0 u/\qaB h0 h') (fin (tk bs 3 r).1 (t+3) 0 hrp)
 by_cases h18:x=18
 ·refine⟨fun e=>absurd (uP.1 e) h16,fun _ _=>⟨fun e=>absurd (uP.1 e) h17,fun _ _=>⟨fun _=>?_,fun e=>by simp[h18]at e⟩⟩⟩;refine(yA (hi.sub s0) hxh L r ok 7).mono ?_;rintro _ h1 ⟨rfl,rfl⟩;have tn:=yl (bs:=bs) (n:=7) (r:=r);have e2:(2:Int)^7=128:=by decide
  have hrp:rp bs r all x=((tk bs 7 r).1,if(tk bs 7 r).1.k=0 then all++List.replicate ((tk bs 7 r).2+11).toNat 0 else all):=by unfold rp;rw[vM h16,vM h17,vP h18]
  obtain⟨t,ht⟩:=vZ tn.1;have wt:IntKind.i64.wrap ((tk bs 7 r).2+11)=((t+11:Nat):Int):=by rw[ht,i64_in _ (by omega)];omega
  have et:((tk bs 7 r).2+11).toNat=t+11:=by omega
  rw[et]at hrp;refine⟨_,_,_,_,_,_,rfl,fun _=>?_⟩;rw[wt];exact EB hi s0 P N hl (t+11) (by omega) 0 (tk bs 7 r).1.k (G:=fun v h'=>∃u,Value.tuple #[rdV a c bs (tk bs 7 r).1,v]=.tuple #[rdV a c bs (rp bs r all x).1,u]/\Part .i64 h' u (rp bs r all x).2/\qaD h0 u/\qaB h0 h') (fin (tk bs 7 r).1 (t+11) 0 hrp)
 refine⟨fun e=>absurd (uP.1 e) h16,fun _ _=>⟨fun e=>absurd (uP.1 e) h17,fun _ _=>⟨fun e=>absurd (uP.1 e) h18,fun _ _=>?_⟩⟩⟩;refine EB hi s0 P N hl 1 (by omega) x r.k (G:=fun v h'=>∃u,Value.tuple #[rdV a c bs r,v]=.tuple #[rdV a c bs (rp bs r all x).1,u]/\Part .i64 h' u (rp bs r all x).2/\qaD h0 u/\qaB h0 h') (fin r 1 x ?_);unfold rp;rw[vM h16,vM h17,vM h18];rfl
end
variable {B:Nat}
section
abbrev tCl:TypeId:=106
abbrev tPC:TypeId:=110
abbrev tRt:TypeId:=187
abbrev tEr:TypeId:=61
def hdl(t:TypeId):Value:=.pointer (some ⟨6,t,none⟩)
def rty(t:TypeId):Value:=.iface tRt (.agg #[hdl t])
section
variable {w:World}{K:Next -> World -> Prop}
theorem ZQ(t:Addr):xv oPP S h B (callFunc xm #[.iface tPC (.pointer (some t))]) [] w K =
  (True/\K (.value (.agg #[hdl tPC,.pointer (some ⟨w.heap.size,0,none⟩),.int .u64 150])) { w with heap:=w.heap.push (.cells #[.pointer (some t)] tPC) }):=by kernel_rfl
theorem ZR(k:Int):xv oPP S h B (callFunc xm #[.iface tCl (.agg #[.int .i64 k])]) [] w K =
  (True/\K (.value (.agg #[hdl tCl,.pointer (some ⟨w.heap.size,0,none⟩),.int .u64 153])) { w with heap:=w.heap.push (.cells #[.int .i64 k] tCl) }):=by kernel_rfl
theorem zbi(a:Addr):xv oPP S h B (callFunc j9 #[.agg #[hdl tPC,.pointer (some a),.int .u64 150]]) [] w K=(True/\K (.value (rty tPC)) w):=by kernel_rfl
theorem Wd(t:Nat):A7 oPP (method (oPP.types.size+Made.depth) tRt (.agg #[hdl t]) "Kind")=some (j4,hdl t):=by kernel_rfl
theorem zbj(t:Nat):A7 oPP (method (oPP.types.size+Made.depth) tRt (.agg #[hdl t]) "Elem")=some (jC,.agg #[hdl t]):=by kernel_rfl
theorem zbk(t:Nat):A7 oPP (method (oPP.types.size+Made.depth) tRt (.agg #[hdl t]) "Implements")=some (xX,.agg #[hdl t]):=by kernel_rfl
theorem zbl(t:Nat):A7 oPP (method (oPP.types.size+Made.depth) tRt (.agg #[hdl t]) "AssignableTo")=some (xQ,.agg #[hdl t]):=by kernel_rfl
theorem ZS:xv oPP S h B (callFunc j4 #[hdl tPC]) [] w K=(True/\K (.value (.int .u8 22)) w):=by kernel_rfl
theorem ZT:xv oPP S h B (callFunc j4 #[hdl tCl]) [] w K=(True/\K (.value (.int .u8 25)) w):=by kernel_rfl
theorem zbm:xv oPP S h B (callFunc jC #[.agg #[hdl tPC]]) [] w K=(True/\K (.value (rty tCl)) w):=by kernel_rfl
theorem zbn:xv oPP S h B (callFunc xX #[.agg #[hdl tCl],rty tEr]) [] w K=(True/\K (.value (.bool true)) w):=by kernel_rfl
theorem Ya(v:Value):xv oPP S h B (callFunc qh #[.iface tCl v]) [] w K=(True/\K (.value (rty tCl)) w):=by kernel_rfl
theorem zbo:xv oPP S h B (callFunc xQ #[.agg #[hdl tCl],rty tCl]) [] w K=(True/\K (.value (.bool true)) w):=by kernel_rfl
theorem ZU(a p:Addr):xv oPP S h B (callFunc j3 #[.agg #[hdl tPC,.pointer (some a),.int .u64 150]]) [.pointer (some p)] w K =
  (True/\Mode.plain=.plain/\(h a.block≠none\/B<=a.block)/\w.cell? a=some (.pointer (some p))/\K (.value (.bool false)) w):=by kernel_rfl
theorem ZV(a p:Addr):xv oPP S h B (callFunc jB #[.agg #[hdl tPC,.pointer (some a),.int .u64 150]]) [.pointer (some p)] w K =
  (True/\Mode.plain=.plain/\(h a.block≠none\/B<=a.block)/\w.cell? a=some (.pointer (some p))/\K (.value (.agg #[hdl tCl,.pointer (some p),.int .u64 409])) w):=by kernel_rfl
theorem zc0(t b:Addr)(k:Int):xv oPP S h B (callFunc jM #[.agg #[hdl tCl,.pointer (some t),.int .u64 409],.agg #[hdl tCl,.pointer (some b),.int .u64 153]]) [.int .i64 k] w K =
  (True/\Mode.plain=.plain/\(h b.block≠none\/B<=b.block)/\w.cell? b=some (.int .i64 k) /\
   Mode.plain=.plain/\(h t.block≠none\/B<=t.block)/\¬S t.block/\(∃u,w.cell? t=some u)/\w.frozen? t=false/\(Value.int .i64 k).cells=#[.int .i64 k]/\(∀x,Value.int .i64 k ≠ .tuple x)/\(∀x,Value.int .i64 k ≠ .agg x) /\
   K (.value (.tuple #[])) (w.setCell t (.int .i64 k))):=by kernel_rfl
end
end
variable {t:Nat}
section
section
def Ds(h:qaA):Prop:=zg h ⟨3,0,none⟩=some (rty tEr)
theorem Ds.sub(H:Ds h)(s:qaB h h'):Ds h':=xJ s H
theorem SC(hi:qaC S h){k old:Int}{t a:Nat}(ht:h t=some (.cells #[.int .i64 old] tCl))(hs:¬S t)(ha:zg h ⟨a,0,none⟩=some (.pointer (some ⟨t,0,none⟩))) :
  zb oPP S F5 #[.iface tCl (.agg #[.int .i64 k]),.iface tPC (.pointer (some ⟨t,0,none⟩)),.agg #[hdl tPC,.pointer (some ⟨a,0,none⟩),.int .u64 150],rty tCl] h
   (fun v h'=>v=.bool true/\h' t=some (.cells #[.int .i64 k] tCl)/\∀y,y≠t->h y≠none->h' y=h y):=by
 refine PT (vs:=[.iface tCl (.agg #[.int .i64 k]),.iface tPC (.pointer (some ⟨t,0,none⟩)),hdl tPC,.pointer (some ⟨a,0,none⟩),.int .u64 150,rty tCl]) ⟨rfl,rfl,rfl,rfl,rfl,rfl,trivial⟩ hi ?_;simp only[Kr,Tr.wp,z8,Ex.ev,coerce,toInt_int,za,zN,Cst.val,SV.den,zq,zK,zz,zm,zl,zw,zY,vF,vG,vA,vB,vD,vE,vJ,vI,vK,uE,pL,uJ,vY,vL];refine⟨fun us h'=>us=[]/\h'=h,fun _ _=>0,⟨rfl,rfl⟩,?_⟩;rintro h' ⟨_,rfl⟩;refine(GJ hi (fun w K=>Ya _)).mono ?_;rintro _ h1 ⟨rfl,rfl⟩;refine⟨rty tCl,rfl,rfl,_,_,_,_,rfl,zbl tCl,?_⟩;refine(GJ hi (fun w K=>zbo)).mono ?_;rintro _ h1 ⟨rfl,rfl⟩;refine⟨_,rfl,fun _=>?_,fun hne=>by simp at hne⟩;refine(OX hi ha (fun w K=>ZV ⟨a,0,none⟩ ⟨t,0,none⟩)).mono ?_;rintro _ h1 ⟨rfl,rfl⟩;refine⟨_,_,_,rfl,?_⟩;refine(QX hi (x:=fun b=>.agg #[hdl tCl,.pointer (some ⟨b,0,none⟩),.int .u64 153]) (fun w K=>ZR k)).mono ?_;rintro _ h2 ⟨b,hb,rfl,rfl⟩;refine⟨_,_,_,rfl,?_⟩;have hbt:t≠b:=fun e=>by rw[e,hb]at ht;cases ht
 refine(XM (t:=t) (b:=b) (k:=.i64) (n:=k) hi.upd (by simp[zg,upd]) (by rw[upd_ne hbt];exact ht) hs (fun w K=>zc0 ⟨t,0,none⟩ ⟨b,0,none⟩ k)).mono ?_;rintro _ h3 ⟨rfl,rfl⟩;refine⟨by simp,upd_same,fun y hy hn=>?_⟩;have hyb:y≠b:=fun e=>hn (by rw[e];exact hb)
 rw[upd_ne hy,upd_ne hyb]
theorem SD(hi:qaC S h){k old:Int}(hE:Ds h)(ht:h t=some (.cells #[.int .i64 old] tCl))(hs:¬S t) :
  zb oPP S F4 #[.iface tCl (.agg #[.int .i64 k]),.iface tPC (.pointer (some ⟨t,0,none⟩))] h
   (fun v h'=>v=.bool true/\h' t=some (.cells #[.int .i64 k] tCl)/\∀y,y≠t->h y≠none->h' y=h y):=by
 refine PS (vs:=[.iface tCl (.agg #[.int .i64 k]),.iface tPC (.pointer (some ⟨t,0,none⟩))]) ⟨rfl,rfl,trivial⟩ hi ?_;simp only[Kq,Tr.wp,z8,Ex.ev,coerce,toInt_int,za,zj,zN,zB,Cst.val,SV.den,zq,zK,zz,zm,zl,zw,zr,vF,vG,vA,vB,vC,vT,vD,vE,vJ,vI,vK,uE,uA,vY,vL];refine⟨fun hne=>by simp[kV,xM]at hne,fun _=>⟨fun hne=>by simp[kV,xM]at hne,fun _=>?_⟩⟩;refine(QX hi (x:=fun b=>.agg #[hdl tPC,.pointer (some ⟨b,0,none⟩),.int .u64 150]) (fun w K=>ZQ ⟨t,0,none⟩)).mono ?_;rintro _ h2 ⟨a,ha,rfl,rfl⟩;have hat:t≠a:=fun e=>by rw[e,ha]at ht;cases ht
 have i2:qaC S (upd h a (.cells #[.pointer (some ⟨t,0,none⟩)] tPC)):=hi.upd;have ca:zg (upd h a (.cells #[.pointer (some ⟨t,0,none⟩)] tPC)) ⟨a,0,none⟩=some (.pointer (some ⟨t,0,none⟩)):=by simp[zg,upd]
 have sa:qaB h (upd h a (.cells #[.pointer (some ⟨t,0,none⟩)] tPC)):=Sub.zx ha;refine⟨_,_,_,rfl,?_⟩;refine(GJ i2 (fun w K=>zbi ⟨a,0,none⟩)).mono ?_;rintro _ h3 ⟨rfl,rfl⟩;refine⟨rty tPC,rfl,rfl,_,_,_,_,rfl,Wd tPC,?_⟩;refine(GJ i2 (fun w K=>ZS)).mono ?_;rintro _ h3 ⟨rfl,rfl⟩;refine⟨_,rfl,fun _=>?_,fun hne=>by simp at hne⟩;refine(OX i2 ca (fun w K=>ZU ⟨a,0,none⟩ ⟨t,0,none⟩)).mono ?_;rintro _ h3 ⟨rfl,rfl⟩;refine⟨_,rfl,fun _=>⟨fun hne=>by simp at hne,fun _=>?_⟩⟩;refine⟨_,_,_,_,rfl,zbj tPC,?_⟩;refine(GJ i2 (fun w K=>zbm)).mono ?_;rintro _ h3 ⟨rfl,rfl⟩;refine⟨rty tCl,rfl,rfl,_,_,_,_,rfl,Wd tCl,?_⟩;refine(GJ i2 (fun w K=>ZT)).mono ?_;rintro _ h3 ⟨rfl,rfl⟩;refine⟨_,rfl,fun _=>?_,fun hne=>by simp at hne⟩;refine⟨rty tEr,rfl,hE.sub sa,_,_,_,_,rfl,zbk tCl,?_⟩;refine(GJ i2 (fun w K=>zbn)).mono ?_;rintro _ h3 ⟨rfl,rfl⟩;refine⟨_,rfl,fun _=>⟨fun hne=>by simp at hne,fun _=>?_⟩⟩;refine(SC i2 (k:=k) (by rw[upd_ne hat];exact ht) hs ca).mono ?_;rintro _ h4 ⟨rfl,e1,e2⟩;refine⟨_,rfl,rfl,e1,fun y hy hn=>?_⟩;have hya:y≠a:=fun e=>hn (by rw[e];exact ha)
 rw[e2 y hy (by rw[upd_ne hya];exact hn),upd_ne hya]
theorem Pb(hi:qaC S h){k:Int}(hE:Ds h) :
  zb oPP S An #[.iface tCl (.agg #[.int .i64 k])] h (fun v h'=>v=.int .i64 k/\qaB h h'):=by
 refine KW (vs:=[.iface tCl (.agg #[.int .i64 k])]) ⟨rfl,trivial⟩ hi ?_;simp only[FX,Tr.wp,z8,Ex.ev,coerce,toInt_int,za,zj,Cst.val,SV.den,zq,zK,zz,zm,zl,yF,zw,zr,vF,vG,nJ,vA,vB,vD,vE,vJ,vI,vK,uA,vY,vL];intro b hb;have hsb:=Bo hi hb;have sb:∀o,qaB h (upd h b o):=fun o=>Sub.zx hb
 refine sto1' (u:=.int .i64 0) (T:=tCl) upd_same hsb ?_;rw[xe];refine(SD hi.upd (hE.sub (sb _)) upd_same hsb).mono ?_;rintro _ h4 ⟨rfl,e1,e2⟩;refine⟨_,rfl,k,by rw[zp,zp];simp[zg,e1],rfl,fun y o hy=>?_⟩;have hyb:y≠b:=fun e=>by rw[e,hb]at hy;cases hy
 rw[e2 y hyb (by rw[upd_ne hyb,hy];simp),upd_ne hyb];exact hy
end
end
variable {bt:Nat}
section
def qV(T:List (Nat×Nat)):List (Int×Int):=T.map fun e=>((e.1:Int),(e.2:Int))
theorem Pc{T:List (Nat×Nat)}:(qV T).length=T.length:=by simp[qV]
theorem IZ{T:List (Nat×Nat)}{k s q:Nat}(h:T[k]? = some (s,q)):(qV T)[k]? = some ((s:Int),(q:Int)):=by simp[qV,h]
theorem Pd{T:List (Nat×Nat)}{k s q:Nat}:(qV T).set k ((s:Int),(q:Int))=qV (T.set k (s,q)):=by simp[qV,List.map_set]
theorem We{T:List (Nat×Nat)}:qV T++[(0,0),(0,0)]=qV (T++[(0,0),(0,0)]):=by simp[qV]
structure TabV(h0 h:qaA)(bt:Nat)(T P:List (Nat×Nat))(a:Option Addr)(c:Nat)(E:Nat->Nat->Prop)(Y:Nat->Nat->Nat):Prop where
 hb:∃TT,h bt=some (.cells #[.slice a T.length c] TT)
 ow:wY h (.slice a T.length c) (qV T)
 nw:qaD h0 (.slice a T.length c)
 nb:h0 bt=none
 ne:zf (.slice a T.length c)≠some bt
 ti:TI E Y T P
 sb:qaB h0 h
variable {T P:List (Nat × Nat)}{E:Nat -> Nat -> Prop}{Y:Nat -> Nat -> Nat}
theorem TabV.ld(H:TabV h0 h bt T P a c E Y):zg h ⟨bt,0,none⟩=some (.slice a T.length c):=by
 obtain⟨TT,hb⟩:=H.hb;simp[zg,hb]
theorem TabV.cell(H:TabV h0 h bt T P a c E Y){k s q:Nat}(hk:T[k]? = some (s,q)):zg h ((a.getD default).add (k*2))=some (.int .i64 s)/\zg h ((a.getD default).add (k*2+1))=some (.int .i64 q)/\a.isSome=true:=by
 obtain⟨a',c',e,_,hx⟩:=H.ow.yT;simp only[pA]at e;rw[e.1];exact hx.cell (IZ hk)
def BJ(cs:List (Nat×Nat))(m B i:Nat):Nat->Nat->Prop:=fun l v=>Em cs m l v\/(l<i/\v=B%2^l)
theorem Yb:∀l v,v<2^(l+1)->BJ cs m B i (l+1) v->BJ cs m B i l (v%2^l):=by
 rintro l v _ (h | ⟨h1,rfl⟩)
 ·exact .inl (zcw h)
 ·exact .inr ⟨by omega,Ob⟩
theorem Yc:∀l v,v<2^(l+1)->Ym cs m (l+1) v≠0->BJ cs m B i l (v%2^l):=fun l v _ h=>.inl (zcx h)
theorem Ri:B%2^(i+1)=B%2^i+2^i*(B/2^i%2):=by rw[gW,Nat.mod_mul]
theorem CQ(hi:qaC S h)(a0:Option Addr)(c0:Nat)(xs:List Int)(O:tI.O h (.slice a0 xs.length c0) xs)(L:IV xs)(hg:¬(zu xs=0\/zu xs=2)) :
  zb oPP S jq #[.slice a0 xs.length c0] h (fun v h'=>∃bt T P a c,v=.pointer (some ⟨bt,0,none⟩)/\TabV h h' bt T P a c (Em (zn xs) xs.length) (Ym (zn xs) xs.length)/\T.length<=20000):=by
 obtain⟨hlen,hok⟩:=jH hg;refine KV (vs:=[.slice a0 xs.length c0]) ⟨rfl,trivial⟩ hi ?_;simp only[FW,Tr.wp,KI,z8,Ex.ev,coerce,toInt_int,za,zd,zi,ze,zj,yg,zB,arith,Cst.val,SV.den,zq,zK,zz,zm,zl,yF,zw,zY,zr,vF,vG,nJ,vA,vB,vC,vT,vO,vU,vD,vE,vJ,vI,vK,uE,uA,vY,vL];have w1:IntKind.i64.wrap 1=1:=i64_in _ (by omega);have e0:yE ((1:Int).toNat*2) #[Value.int IntKind.i64 0,Value.int IntKind.i64 0]=xp [(0,0)]:=OV 1;have e1:(1:Int).toNat=1:=rfl;rw[w1,e0,e1];refine⟨by omega,by omega,by omega,fun b0 hb0 bt hbt=>?_⟩;obtain⟨h1,hh1⟩:∃h1,h1=upd h b0 (.cells (xp [(0,0)]) 218):=⟨_,rfl⟩;rw[<-hh1]at hbt ⊢;have s1:qaB h h1:=by rw[hh1];exact Sub.zx hb0
 have hbt0:=zU s1 hbt;have hne0:b0≠bt:=fun e=>by rw[hh1,<-e,upd_same]at hbt;cases hbt
 obtain⟨h2,hh2⟩:∃h2,h2=upd h1 bt (.cells #[.slice (some ⟨b0,0,none⟩) 1 1] 216):=⟨_,rfl⟩;rw[<-hh2];have s2:qaB h h2:=by rw[hh2];exact s1.trans (Sub.zx hbt)
 have hb2t:h2 bt=some (.cells #[.slice (some ⟨b0,0,none⟩) 1 1] 216):=by rw[hh2,upd_same]
 have hb20:h2 b0=some (.cells (xp [(0,0)]) 218):=by rw[hh2,upd_ne hne0,hh1,upd_same]
 obtain⟨cs,hcs⟩:∃cs,cs=zn xs:=⟨_,rfl⟩;have hcl:cs.length=xs.length:=by rw[hcs,xA]
 rw[<-hcs];refine(EA (hi.sub s2) (Ty.Cd O s2) L).mono ?_;rintro cv h3 ⟨OC,NC,s3⟩;simp only[yH,vM hg]at OC;obtain⟨ac,cc,rfl⟩:=XR (CO.OR OC);rw[jx]at OC NC ⊢;have OC:xG h3 (.slice ac xs.length cc) (yM xs):=OC;have NC:∀y,zf (.slice ac xs.length cc)=some y->h2 y=none:=NC;have hcbt:zf (.slice ac xs.length cc)≠some bt:=fun e=>by have:=NC bt e;rw[hb2t]at this;cases this
 refine⟨_,_,_,rfl,?_⟩;refine⟨fun us h'=>∃(m:Nat) (T P:List (Nat×Nat)) (a:Option Addr) (c:Nat),us=[.int .i64 m]/\m<=xs.length/\TabV h h' bt T P a c (Em cs m) (Ym cs m)/\T.length<=1+30*m/\xG h' (.slice ac xs.length cc) (yM xs)/\(∀y,zf (.slice ac xs.length cc)=some y->zf (.slice a T.length c)≠some y),
  fun us _=>xs.length-(toInt (us.getD 0 undef)).toNat,⟨0,[(0,0)],[(0,0)],some ⟨b0,0,none⟩,1,rfl,by omega,?_,by simp,OC,?_⟩,?_⟩
 ·refine⟨⟨_,s3 bt _ hb2t⟩,⟨b0,[],_,rfl,s3 b0 _ hb20⟩,New.of hb0,hbt0,fun e=>hne0 (by cases e;rfl),?_,s2.trans s3⟩;exact TI.start.congr (fun l v _=>⟨fun h=>h.elim,fun⟨s,_,h,_⟩=>by omega⟩) (fun _ _ _=>rfl)
 ·intro y hy e;cases e
  have:=NC b0 hy;rw[hb20]at this;cases this
 rintro x h' ⟨m,T,P,a,c,hx1,hm,TV,hTl,OC1,dis⟩;obtain rfl:x=m:=by simpa using hx1
 refine⟨fun hlt=>?_,fun hge=>?_⟩
 ·have hm3:m<xs.length:=by omega
  have hp:=wF (xs:=xs) hm3;obtain⟨Lm,B,hpe,hcm,hL15,hBl⟩:=ku hok hp;rw[<-hcs]at hcm;rw[hpe]at hp;obtain⟨a9,c9,e9,_,hx9⟩:=OC1.yT;simp only[pA]at e9;obtain⟨rfl,_,rfl⟩:=e9;obtain⟨g1,g2,g3⟩:=hx9.cell hp;have w2:IntKind.i64.wrap ((m:Int)+1)=((m+1:Nat):Int):=z9;refine⟨by simpa using g3,by omega,hlt,(Lm:Int),(B:Int),⟨by simpa[add_add]using g1,by simpa[add_add]using g2⟩,fun hz=>?_,fun hnz=>?_⟩
  ·have hz:Lm=0:=by have:(Lm:Int)=0:=uP.1 hz;omega
   subst hz;rw[w2];refine⟨⟨m+1,T,P,a,c,rfl,by omega,⟨TV.hb,TV.ow,TV.nw,TV.nb,TV.ne,?_,TV.sb⟩,by omega,OC1,dis⟩,by simp only[vA,toInt_int];omega⟩;refine TV.ti.congr (fun l v _=>?_) (fun l v _=>?_)
   ·rw[Gn hcm];exact⟨.inl,fun h=>h.elim id fun h=>by omega⟩
   ·rw[Ym,vM (fun h=>?_)];rw[hcm]at h;simp only[uZ,uV]at h;omega
  have hLm:0<Lm:=by
   rcases Nat.eq_zero_or_pos Lm with h | h
   ·subst h;simp at hnz
   ·exact h
  refine⟨fun us h'=>∃(at_ i:Nat) (T P:List (Nat×Nat)) (a:Option Addr) (c:Nat),us=[.int .i64 at_,.int .i64 i]/\i<=Lm/\P[at_]? = some (i,B%2^i)/\TabV h h' bt T P a c (BJ cs m B i) (Ym cs m)/\T.length<=1+30*m+2*i/\xG h' (.slice ac xs.length cc) (yM xs)/\(∀y,zf (.slice ac xs.length cc)=some y->zf (.slice a T.length c)≠some y),
   fun us _=>Lm-(toInt (us.getD 1 undef)).toNat,⟨0,0,T,P,a,c,rfl,by omega,by rw[TV.ti.root];simp[Nat.mod_one],⟨TV.hb,TV.ow,TV.nw,TV.nb,TV.ne,TV.ti.congr (fun l v _=>⟨.inl,fun h=>h.elim id fun h=>by omega⟩) (fun _ _ _=>rfl),TV.sb⟩,by omega,OC1,dis⟩,?_⟩
  clear TV hTl OC1 dis hx9 g1 g2 g3;rintro x y h' ⟨at_,i,T,P,a,c,hx2,hi2,hP,TV,hTl,OC1,dis⟩;obtain⟨rfl,rfl⟩:x=at_/\y=i:=by simpa using hx2
  obtain⟨s,q,hT⟩:=TV.ti.get hP;have hkT:=(vS.1 hT).1;obtain⟨g1,g2,g3⟩:=TV.cell hT;refine⟨fun hlt=>?_,fun hge=>?_⟩
  ·refine⟨_,_,_,by simpa[zp]using TV.ld,by simpa using g3,by omega,by omega,(q:Int),by simpa[add_add]using g2,?_⟩;have wi:IntKind.i64.wrap ((i:Int)+1)=((i+1:Nat):Int):=z9;have hbit:IntKind.i64.wrap (Go.bits .and .u64 ((B:Int).fdiv (2^min (i:Int).toNat IntKind.u64.bits)) 1)=((B/2^i%2:Nat):Int):=by
    have m1:min (i:Int).toNat IntKind.u64.bits=i:=by
     have:IntKind.u64.bits=64:=rfl;rw[this];omega
    have hp:(0:Int)<2^i:=nG (by decide);have e:(B:Int).fdiv (2^i)%2=((B/2^i%2:Nat):Int):=by
     rw[pS _ (mB hp)];push_cast;rfl
    rw[m1,KT,e];exact i64_in _ (by omega)
   rw[wi,hbit];have adv:∀ {h':qaA} {T P:List (Nat×Nat)} {a:Option Addr} {c s q:Nat},T[at_]? = some (s,q)->P[at_]? = some (i,B%2^i)->TabV h h' bt T P a c (BJ cs m B (i+1)) (Ym cs m)->T.length<=1+30*m+2*(i+1)->xG h' (.slice ac xs.length cc) (yM xs)->(∀y,zf (.slice ac xs.length cc)=some y->zf (.slice a T.length c)≠some y) ->
     ∃(at' i':Nat) (T P:List (Nat×Nat)) (a:Option Addr) (c:Nat),([Value.int .i64 (IntKind.i64.wrap ((q:Int)+((B/2^i%2:Nat):Int))),Value.int .i64 ((i+1:Nat):Int)]:List Value)=[.int .i64 at',.int .i64 i']/\i'<=Lm/\P[at']? = some (i',B%2^i')/\TabV h h' bt T P a c (BJ cs m B i') (Ym cs m)/\T.length<=1+30*m+2*i'/\xG h' (.slice ac xs.length cc) (yM xs)/\(∀y,zf (.slice ac xs.length cc)=some y->zf (.slice a T.length c)≠some y):=by
    intro h' T P a c s q hT hP TV hl OC dis;have hq:q≠0:=(TV.ti.ext hT hP).2 (.inr ⟨by omega,rfl⟩);obtain⟨k0,k1⟩:=TV.ti.kid hT hP hq;have hk0:=(vS.1 k0).1;rw[TV.ti.len]at hk0;have hbb:B/2^i%2=0\/B/2^i%2=1:=by omega
    refine⟨q+B/2^i%2,i+1,T,P,a,c,by rw[i64_in _ (by omega)];rfl,by omega,?_,TV,hl,OC,dis⟩;rw[Ri];rcases hbb with h | h <;> rw[h]
    ·simpa using k0
    ·simpa using k1
   have hnb:∀b,zf (.slice a T.length c)=some b->¬S b:=fun b hb hs=>hi b hs (TV.nw b hb)
   refine⟨fun hq0=>?_,fun hqn _=>?_⟩
   ·have hq0:q=0:=by have:(q:Int)=0:=uP.1 hq0;omega
    subst hq0;have hT':(qV T)[at_]? = some ((s:Int),(((0:Nat):Int))):=IZ hT;obtain⟨ok4,ow4,fr4⟩:=TV.ow.XL hnb hT' (T.length:Int);rw[Pd]at ow4;refine⟨_,_,_,by simpa[zp]using TV.ld,_,_,_,by simpa[zp]using TV.ld,by simpa using g3,by omega,by omega,?_⟩;simp only[ye,vV];refine⟨ok4,?_⟩;obtain⟨h4,hh4⟩:∃h4,h4=zJ h' ((((a.getD default).add (at_*2)).add 1).add 0) (.int .i64 T.length):=⟨_,rfl⟩;obtain⟨TT,hbt'⟩:=TV.hb;have f4:∀w,zf (.slice a T.length c)≠some w->h4 w=h' w:=fun w hw=>by rw[hh4];exact fr4 w hw
    rw[<-hh4]at ow4 ⊢;have hb4:h4 bt=some (.cells #[.slice a T.length c] TT):=by rw[f4 bt TV.ne];exact hbt'
    have sb4:qaB h h4:=fun y o hy=>by rw[f4 y (fun e=>by rw[TV.nw y e]at hy;cases hy)];exact TV.sb y o hy
    have OC4:xG h4 (.slice ac xs.length cc) (yM xs):=OC1.keep fun y hy=>f4 y (dis y hy)
    refine⟨a,T.length,c,by simp[zp,zg,hb4],fun b hb=>?_⟩;have eb:(Obj.cells #[Value.int IntKind.i64 0,Value.int IntKind.i64 0,Value.int IntKind.i64 0,Value.int IntKind.i64 0] 218)=.cells (xp [(0,0),(0,0)]) 218:=rfl;rw[eb];have s5:qaB h4 (upd h4 b (.cells (xp [(0,0),(0,0)]) 218)):=Sub.zx hb;have hnT:(qV (T.set at_ (s,T.length))).length=T.length:=by rw[Pc,uR]
    have ow5:wY (upd h4 b (.cells (xp [(0,0),(0,0)]) 218)) (.slice a T.length c) (qV (T.set at_ (s,T.length))):=ow4.keep fun z hz=>upd_ne fun e=>ow4.held z hz (e▸hb)
    refine VN hi (sb4.trans s5) ow5 TV.nw (qs:=[(0,0),(0,0)]) (wX.of (sp:=[]) upd_same) (by rw[hnT];simp only[uB,uF];omega) fun v' h6 o6 n6 s6 keep hblk=>?_
    rw[We]at o6;obtain⟨a6,c6,rfl,_,_⟩:=o6.yT;rw[Pc]at o6 n6 hblk ⊢;have hb5:(upd h4 b (.cells (xp [(0,0),(0,0)]) 218)) bt=some (.cells #[.slice a T.length c] TT):=s5 bt _ hb4;have hb6:h6 bt=some (.cells #[.slice a T.length c] TT):=by rw[keep bt (by rw[hb5];simp) TV.ne];exact hb5
    have hsbt:¬S bt:=fun hs=>hi bt hs TV.nb
    have ezz:((⟨bt,0,none⟩:Addr).add 0).add 0=⟨bt,0,none⟩:=by rw[zp,zp]
    have ne6:zf (.slice a6 (T.set at_ (s,T.length)++[(0,0),(0,0)]).length c6)≠some bt:=by
     rcases hblk with e | e
     ·rw[e];exact TV.ne
     ·intro e2;have:=e bt e2;rw[hb5]at this;cases this
    have dis6:∀y,zf (.slice ac xs.length cc)=some y->zf (.slice a6 (T.set at_ (s,T.length)++[(0,0),(0,0)]).length c6)≠some y:=fun y hy=>by
     rcases hblk with e | e
     ·rw[e];exact dis y hy
     ·intro e2;have h7:=e y e2;exact OC4.held y hy (zU s5 h7)
    have OC6:xG h6 (.slice ac xs.length cc) (yM xs):=OC4.keep fun y hy=>by
     have hh:=OC4.held y hy;have e5:(upd h4 b (.cells (xp [(0,0),(0,0)]) 218)) y=h4 y:=upd_ne fun e=>hh (e▸hb)
     rw[keep y (by rw[e5];exact hh) (dis y hy),e5]
    have eset:zJ h6 (((⟨bt,0,none⟩:Addr).add 0).add 0) (.slice a6 (T.set at_ (s,T.length)++[(0,0),(0,0)]).length c6)=upd h6 bt (.cells #[.slice a6 (T.set at_ (s,T.length)++[(0,0),(0,0)]).length c6] TT):=by
     rw[ezz,hset_cells' hb6];rfl
    refine⟨by rw[ezz];exact⟨⟨.slice a T.length c,by simp[zg,hb6]⟩,by simp[y8,hb6],hsbt⟩,?_⟩;simp only[ze,zd,zi];rw[eset];intro _;have TV6:TabV h (upd h6 bt (.cells #[.slice a6 (T.set at_ (s,T.length)++[(0,0),(0,0)]).length c6] TT)) bt (T.set at_ (s,T.length)++[(0,0),(0,0)]) (P++[(i+1,B%2^i),(i+1,B%2^i+2^i)]) a6 c6 (BJ cs m B (i+1)) (Ym cs m):=by
     refine⟨⟨TT,upd_same⟩,o6.keep fun z hz=>upd_ne fun e=>ne6 (e▸hz),n6,TV.nb,ne6,?_,fun y o hy=>?_⟩
     ·refine(TV.ti.grow hT hP Yb Yc).congr (fun l v _=>?_) (fun _ _ _=>rfl);unfold BJ;constructor
      ·rintro((h | h) | ⟨rfl,rfl⟩)
       ·exact .inl h
       ·exact .inr ⟨by omega,h.2⟩
       ·exact .inr ⟨by omega,rfl⟩
      ·rintro(h | ⟨h1,h2⟩)
       ·exact .inl (.inl h)
       ·rcases(show l<i\/l=i by omega)with h | h
        ·exact .inl (.inr ⟨h,h2⟩)
        ·subst h;exact .inr ⟨rfl,h2⟩
     ·rw[upd_ne (fun e=>by rw[e,TV.nb]at hy;cases hy)];exact s6 y o hy
    have hT6:(T.set at_ (s,T.length)++[(0,0),(0,0)])[at_]? = some (s,T.length):=by
     rw[uC (by rw[uR];exact hkT),nC hkT]
    have hP6:(P++[(i+1,B%2^i),(i+1,B%2^i+2^i)])[at_]? = some (i,B%2^i):=by
     rw[uC (vS.1 hP).1];exact hP
    obtain⟨_,g5,g6⟩:=TV6.cell hT6;refine⟨_,_,_,by simpa[zp]using TV6.ld,by simpa using g6,by omega,by simp;omega,(T.length:Int),by simpa[add_add]using g5,by omega,?_,by simp only[vB,vA,toInt_int];omega⟩;exact adv hT6 hP6 TV6 (by simp;omega) (OC6.keep fun z hz=>upd_ne fun e=>hcbt (e▸hz)) dis6
   ·have hqn:q≠0:=fun e=>by subst e;simp at hqn
    have TV6:TabV h h' bt T P a c (BJ cs m B (i+1)) (Ym cs m):=⟨TV.hb,TV.ow,TV.nw,TV.nb,TV.ne,TV.ti.congr (fun l v hv=>by
     have hE:=(TV.ti.ext hT hP).1 hqn
     unfold BJ at hE ⊢
     constructor
     ·rintro(h | ⟨h1,h2⟩)
      ·exact .inl h
      ·exact .inr ⟨by omega,h2⟩
     ·rintro(h | ⟨h1,h2⟩)
      ·exact .inl h
      ·rcases(show l<i\/l=i by omega)with h | h
       ·exact .inr ⟨h,h2⟩
       ·subst h;subst h2;exact hE) (fun _ _ _=>rfl),TV.sb⟩
    refine⟨_,_,_,by simpa[zp]using TV.ld,by simpa using g3,by omega,by omega,(q:Int),by simpa[add_add]using g2,by omega,?_,by simp only[vB,vA,toInt_int];omega⟩;exact adv hT hP TV6 (by omega) OC1 dis
  ·refine⟨_,_,_,by simpa[zp]using TV.ld,by simpa using g3,by omega,by omega,?_⟩;obtain rfl:i=Lm:=by omega
   have hnb:∀b,zf (.slice a T.length c)=some b->¬S b:=fun b hb hs=>hi b hs (TV.nw b hb)
   have hT':(qV T)[at_]? = some ((s:Int),((q:Int))):=IZ hT;obtain⟨ok4,ow4,fr4⟩:=TV.ow.XK hnb hT' ((m+1:Nat):Int);rw[Pd]at ow4;simp only[ye,vV,w2];refine⟨ok4,?_⟩;obtain⟨h4,hh4⟩:∃h4,h4=zJ h' ((((a.getD default).add (at_*2)).add 0).add 0) (.int .i64 ((m+1:Nat):Int)):=⟨_,rfl⟩;obtain⟨TT,hbt'⟩:=TV.hb;have f4:∀w,zf (.slice a T.length c)≠some w->h4 w=h' w:=fun w hw=>by rw[hh4];exact fr4 w hw
   rw[<-hh4]at ow4 ⊢;rw[FU hBl]at hP;have hlT:(T.set at_ (m+1,q)).length=T.length:=uR ..;have TV4:TabV h h4 bt (T.set at_ (m+1,q)) P a c (Em cs (m+1)) (Ym cs (m+1)):=by
    refine⟨⟨TT,by rw[f4 bt TV.ne,hlT];exact hbt'⟩,by rw[hlT];exact ow4,by rw[hlT];exact TV.nw,TV.nb,by rw[hlT];exact TV.ne,?_,fun y o hy=>by rw[f4 y (fun e=>by rw[TV.nw y e]at hy;cases hy)];exact TV.sb y o hy⟩;refine(TV.ti.put hT hP (m+1)).congr (fun l v _=>?_) (fun l v _=>?_)
    ·rw[Gn hcm];unfold BJ;constructor
     ·rintro(h | ⟨h1,h2⟩)
      ·exact .inl h
      ·exact .inr ⟨h1,h2.symm⟩
     ·rintro(h | ⟨h1,h2⟩)
      ·exact .inl h
      ·exact .inr ⟨h1,h2.symm⟩
    ·rw[Ym,hcm];by_cases h:l=i/\v=B
     ·obtain⟨rfl,rfl⟩:=h;rw[vP ⟨rfl,rfl⟩,vP ⟨rfl,hLm⟩]
     ·rw[vM h,vM];intro h2;simp only[uZ,uV]at h2;exact h ⟨h2.1.1.symm,h2.1.2.symm⟩
   exact⟨⟨m+1,_,P,a,c,rfl,by omega,TV4,by rw[hlT];omega,OC1.keep fun y hy=>f4 y (dis y hy),by rw[hlT];exact dis⟩,by simp only[vA,toInt_int];omega⟩
 ·obtain rfl:m=xs.length:=by omega
  exact⟨bt,T,P,a,c,rfl,TV,by omega⟩
end
section
theorem Wf:∀k,k<19->ord.getD k 0<19:=by decide
theorem Tk(h:k<19):(ord.map Int.ofNat)[k]? = some ((ord.getD k 0:Nat):Int):=by
 have hl:ord.length=19:=rfl;rw[uY,vQ (by omega)];simp[List.getD,vQ (show k<ord.length by omega)]
theorem Li(O:xG h' v (yH xs))(hg:¬(zu xs=0\/zu xs=2)):∃a c,v=.slice a xs.length c/\CodesAt h' a xs.length (zn xs):=by
 obtain⟨hlen,hok⟩:=jH hg;simp only[yH,vM hg]at O;obtain⟨a,c,rfl,_,hx⟩:=xG.yT O;rw[jx];exact⟨a,c,rfl,⟨yM xs,hx,jx,by rw[xA,jx],fun j p hp=>ku hok hp⟩,GY hg,by omega⟩
def Qp(h:qaA)(a:Option Addr)(c:Nat)(bs:List Int)(F:Rd×List Int×List Int)(v:Value)(h':qaA):Prop:=
 ∃u w,v=.tuple #[rdV a c bs F.1,u,w]/\(F.1.k=0->Part .i64 h' u F.2.1/\Part .i64 h' w F.2.2/\qaD h u/\qaD h w)/\(∃a1 l1 c1 a2 l2 c2,u=.slice a1 l1 c1/\w=.slice a2 l2 c2)/\qaB h h'
def Cl(nl:Nat)(r:Rd)(all:List Int):Rd×List Int×List Int:=if r.k=0 then(bd (Hb (all.take nl) (all.drop nl)) r,all.take nl,all.drop nl)else(r,[],[])
theorem ZW(hi:qaC S h0)(s0:qaB h0 h)(P:Part .i64 h (.slice aa all.length ca) all)(N:qaD h0 (.slice aa all.length ca)){x6 x13 z:Int}(hx6:0<=x6/\x6<32)
  (hlen:r.k=0->(x6+257).toNat+1<=all.length/\all.length<=1000)(K0 K1 K2 K3:Kt)(e0 e1 e2 e3 e4 e5 e7 e8 e9 e10 e11 e12 e14 e15 e16 e17 e18 e19 e20 e21 e22 e23 e24 e25 e26 e27 e28 e29 e30 e31 e32:Value) :
  Uv.wp oPP S yk (Qp h0 a c bs (Cl (x6+257).toNat r all)) [e0,e1,e2,e3,e4,e5,.int .i64 x6,e7,e8,e9,e10,e11,e12,.int .i64 x13,e14,e15,e16,e17,e18,e19,e20,e21,e22,e23,e24,e25,e26,e27,e28,e29,e30,e31,e32,.int .i64 z,.slice aa all.length ca,.slice a bs.length c,.int .i64 r.i,.int .i64 r.k] h [K0,K1,K2,K3]:=by
 obtain⟨n6,rfl⟩:=vZ hx6.1;have w6:IntKind.i64.wrap ((n6:Int)+257)=((n6+257:Nat):Int):=z9;have e6:((n6:Int)+257).toNat=n6+257:=by omega
 rw[e6]at hlen ⊢;simp only[Uv,Tr.wp,z8,Ex.ev,coerce,toInt_int,za,zd,zi,ze,zj,qa,wE,zB,arith,Cst.val,SV.den,zq,zK,zz,zm,zl,zw,zr,vF,vG,vA,vB,vC,vT,vO,vD,vE,vJ,vI,vK,uE,uA,uJ,vY,vL,w6];refine⟨fun hne=>?_,fun heq=>?_⟩
 ·have hk:r.k≠0:=fN.1 hne;intro b1 hb1 b2 hb2;have e:Cl (n6+257) r all=(r,[],[]):=vM hk;rw[e];exact⟨_,_,rfl,fun h=>absurd h hk,⟨_,_,_,_,_,_,rfl,rfl⟩,s0.trans ((Sub.zx hb1).trans (Sub.zx hb2))⟩
 ·have hk:r.k=0:=by simpa using heq
  obtain⟨l1,l2⟩:=hlen hk;have e:Cl (n6+257) r all=(bd (Hb (all.take (n6+257)) (all.drop (n6+257))) r,all.take (n6+257),all.drop (n6+257)):=vP hk;rw[e];obtain⟨_,_,ei,hca,gi⟩:=P.ints;cases ei
  refine⟨by omega,by omega,by omega,by omega,?_⟩;obtain⟨aL,cL,eL,PL,NL,nL⟩:=P.zbd N (n:=n6+257) (m:=ca) (by omega) (by omega) (uN _);obtain⟨aR,cR,eR,PR,NR⟩:=P.from N (n:=n6+257) (by omega) hca;rw[vV,eL,eR];have lL:(all.take (n6+257)).length=n6+257:=by rw[pW];omega
  obtain⟨_,_,ei,_,gL⟩:=PL.ints;cases ei
  obtain⟨_,_,ei,_,gR⟩:=PR.ints;cases ei
  have g256:(all.take (n6+257))[256]? = some ((all.take (n6+257)).getD 256 0):=by simp[List.getD,show 256<all.length by omega]
  obtain⟨g1,g2⟩:=gL.cell g256;have hbad:Hb (all.take (n6+257)) (all.drop (n6+257))=((all.take (n6+257)).getD 256 0==0||(!(zu (all.take (n6+257))==1||zu (all.take (n6+257))==4)) || !(zu (all.drop (n6+257))==1||zu (all.drop (n6+257))==4||zu (all.drop (n6+257))==5)):=rfl;generalize Hb (all.take (n6+257)) (all.drop (n6+257))=B at hbad ⊢;generalize (all.take (n6+257)).getD 256 0=y at g1 hbad;have fin:∀w:Bool,w=B->Qp h0 a c bs (bd B r,all.take (n6+257),all.drop (n6+257)) (.tuple #[rdV a c bs (bd w r),.slice aL (all.take (n6+257)).length cL,.slice aR (all.drop (n6+257)).length cR]) h:=fun w e=>by
   subst e;exact⟨_,_,rfl,fun _=>⟨PL,PR,NL,NR⟩,⟨_,_,_,_,_,_,rfl,rfl⟩,s0⟩
  refine⟨by rw[yg,nL (by omega)];rfl,by simp,by simp only[zd,lL];omega,y,by simp only[ze,add_add];exact g1,fun hy=>?_,fun hy=>?_⟩
  ·refine(MF (hi.sub s0) aL cL _ gL 1 4 4).mono ?_;rintro _ h2 ⟨rfl,rfl⟩;refine⟨_,rfl,fun hA=>?_,fun hA=>?_⟩
   ·refine(MF (hi.sub s0) aR cR _ gR 1 4 5).mono ?_;rintro _ h3 ⟨rfl,rfl⟩;refine⟨_,rfl,?_⟩;refine(xB (hi.sub s0) a c bs r _).mono ?_;rintro _ h3 ⟨rfl,rfl⟩;refine⟨_,_,_,_,_,rfl,fun _=>fin _ ?_⟩;rw[hbad];revert hy hA;cases (y==0) <;> cases (zu (all.take (n6+257))==1) <;> cases (zu (all.take (n6+257))==4) <;> simp
   ·refine(xB (hi.sub s0) a c bs r true).mono ?_;rintro _ h3 ⟨rfl,rfl⟩;refine⟨_,_,_,_,_,rfl,fun _=>fin _ ?_⟩;rw[hbad];revert hy hA;cases (y==0) <;> cases (zu (all.take (n6+257))==1) <;> cases (zu (all.take (n6+257))==4) <;> simp
  ·refine(xB (hi.sub s0) a c bs r true).mono ?_;rintro _ h3 ⟨rfl,rfl⟩;refine⟨_,_,_,_,_,rfl,fun _=>fin _ ?_⟩;rw[hbad];revert hy;cases (y==0) <;> simp
theorem ZX(hi:qaC S h0)(s0:qaB h0 h)(hx:zk h0 .u8 a bs)(L:bs.length<=1048576)(ok:okR bs r)(P:Part .i64 h (.slice aa all.length ca) all)(N:qaD h0 (.slice aa all.length ca))(ha:all=[])
  {x6 x13 z0:Int}(hx6:0<=x6/\x6<32)(hx13:0<=x13/\x13<32)(C:r.k=0->CodesAt h0 ac lc cs)(K0 K1:Kt)(e0 e1 e2 e3 e4 e5 e7 e8 e9 e10 e11 e12 e14 e15 e16 e17 e18 e19 e20 e21 e23 e24 e25 e26 e27:Value) :
  Uw.wp oPP S yk (Qp h0 a c bs (Cl (x6+257).toNat (lg bs cs ((x6+257).toNat+(x13+1).toNat) r all).1 (lg bs cs ((x6+257).toNat+(x13+1).toNat) r all).2)) [e0,e1,e2,e3,e4,e5,.int .i64 x6,e7,e8,e9,e10,e11,e12,.int .i64 x13,e14,e15,e16,e17,e18,e19,e20,e21,.int .i64 z0,e23,e24,e25,e26,e27,.slice a bs.length c,.int .i64 r.i,.int .i64 r.k,.slice ac lc cc,.slice aa all.length ca] h [K0,K1]:=by
 obtain⟨n6,rfl⟩:=vZ hx6.1;obtain⟨n13,rfl⟩:=vZ hx13.1;have w6:IntKind.i64.wrap ((n6:Int)+257)=((n6+257:Nat):Int):=z9;have w13:IntKind.i64.wrap ((n13:Int)+1)=((n13+1:Nat):Int):=z9;have e6:((n6:Int)+257).toNat=n6+257:=by omega
 have e13:((n13:Int)+1).toNat=n13+1:=by omega
 have wt:IntKind.i64.wrap (((n6+257:Nat):Int)+((n13+1:Nat):Int))=((n6+257+(n13+1):Nat):Int):=z9;rw[e6,e13];simp only[Uw,Tr.wp,z8,Ex.ev,coerce,toInt_int,za,zd,zi,ze,xu,zB,arith,Cst.val,SV.den,zq,zK,zz,zm,zl,zw,zY,vF,vG,vA,vB,vC,vT,vD,vE,vJ,vI,vK,uB,uF,uE,uJ,vY,vL,w6,w13,wt];generalize hT:n6+257+(n13+1)=tot;refine⟨fun us h'=>∃(z:Int) (r':Rd) (all':List Int) (a':Option Addr) (c':Nat),us=[.int .i64 z,.slice a' all'.length c',.slice a bs.length c,.int .i64 r'.i,.int .i64 r'.k]/\okR bs r'/\Part .i64 h' (.slice a' all'.length c') all'/\qaD h0 (.slice a' all'.length c')/\qaB h0 h'/\(r'.k=0->r.k=0)/\(r'.k=0->all'.length<=tot)/\lg bs cs tot r all=lg bs cs tot r' all',
  fun us _=>if toInt (us.getD 4 undef)=0 then tot+1-slL (us.getD 1 undef)else 0,⟨z0,r,all,aa,ca,rfl,ok,P,N,s0,id,fun _=>by rw[ha];simp,rfl⟩,?_⟩
 rintro z a' l' c' ab lb cb i' k' h' ⟨z',r',all',a'',c'',hx1,ok',P',N',s',hk,hal,hlg⟩;simp only[uQ,uT,pA,pL,uA]at hx1;obtain⟨rfl,⟨rfl,rfl,rfl⟩,⟨rfl,rfl,rfl⟩,rfl,rfl⟩:=hx1;refine⟨fun hgo=>?_,fun hend=>?_⟩
 ·have hgo:r'.k=0/\all'.length<tot:=by simp at hgo;omega
  refine(Oe (hi.sub s') (hx.sub s') L r' ok' (fun h=>(C (hk h)).sub s')).mono ?_;rintro _ h2 ⟨rfl,rfl⟩;refine⟨_,_,_,_,_,_,rfl,?_⟩;have st:=DL (bs:=bs) (cs:=cs) hgo;have len:=Ck (bs:=bs) (cs:=cs) (tot:=tot) (r:=r') (all:=all');have ok1:okR bs (lg1 bs cs tot r' all').1:=Rh ok';have oks:okR bs (sy bs cs r').1:=Cv ok';refine⟨fun hs0=>?_,fun hs0 _=>?_⟩
  ·have hs0:(sy bs cs r').1.k=0:=uP.1 hs0;have e1:lg1 bs cs tot r' all'=(bd (decide (tot<(rp bs (sy bs cs r').1 all' (sy bs cs r').2).2.length)) (rp bs (sy bs cs r').1 all' (sy bs cs r').2).1,(rp bs (sy bs cs r').1 all' (sy bs cs r').2).2):=vP hs0;refine(Uz hi s' hx L (sy bs cs r').1 oks P' N' (by omega) (sy bs cs r').2).mono ?_;rintro _ h3 ⟨u,rfl,P3,N3,s3⟩;obtain⟨a3,c3,rfl,_,_⟩:=P3.ints;refine⟨_,_,_,_,_,_,_,_,rfl,?_⟩;have ed:decide (((rp bs (sy bs cs r').1 all' (sy bs cs r').2).2.length:Int)>(tot:Int))=decide (tot<(rp bs (sy bs cs r').1 all' (sy bs cs r').2).2.length):=by
    by_cases h:tot<(rp bs (sy bs cs r').1 all' (sy bs cs r').2).2.length
    ·rw[pZ (show((rp bs (sy bs cs r').1 all' (sy bs cs r').2).2.length:Int)>(tot:Int) by omega),pZ h]
    ·rw[pR (show ¬((rp bs (sy bs cs r').1 all' (sy bs cs r').2).2.length:Int)>(tot:Int) by omega),pR h]
   rw[ed];refine(xB (hi.sub s3) ab cb bs (rp bs (sy bs cs r').1 all' (sy bs cs r').2).1 _).mono ?_;rintro _ h4 ⟨rfl,rfl⟩;refine⟨_,_,_,_,_,rfl,fun _=>?_⟩;have e2:(lg1 bs cs tot r' all').2=(rp bs (sy bs cs r').1 all' (sy bs cs r').2).2:=by rw[e1]
   have e3:(lg1 bs cs tot r' all').1=bd (decide (tot<(rp bs (sy bs cs r').1 all' (sy bs cs r').2).2.length)) (rp bs (sy bs cs r').1 all' (sy bs cs r').2).1:=by rw[e1]
   rw[<-e3];rw[<-e2]at P3 N3 ⊢;refine⟨⟨_,(lg1 bs cs tot r' all').1,(lg1 bs cs tot r' all').2,a3,c3,rfl,ok1,P3,N3,s3,fun _=>hk hgo.1,fun h=>(len.2.2 h).2,hlg.trans st⟩,?_⟩;simp only[vB,vA,toInt_int,zd,hgo.1,uJ];split
   ·rename_i h0;have:=len.2.2 h0;omega
   ·omega
  ·have hs0:(sy bs cs r').1.k≠0:=fun e=>by simp[e]at hs0
   have e1:lg1 bs cs tot r' all'=((sy bs cs r').1,all'):=vM hs0;rw[e1]at st;refine⟨⟨_,(sy bs cs r').1,all',a',c',rfl,oks,P',N',s',fun _=>hk hgo.1,fun h=>absurd h hs0,hlg.trans st⟩,?_⟩;simp only[vB,vA,toInt_int,zd,hgo.1,uJ,vM hs0];omega
 ·have hend:¬(r'.k=0/\all'.length<tot):=by simp at hend;omega
  rw[j5 hend]at hlg;rw[hlg];have:=ZW (x13:=(n13:Int)) (z:=z) hi s' (a:=ab) (c:=cb) (bs:=bs) (r:=r') P' N' (x6:=(n6:Int)) ⟨by omega,by omega⟩ (fun h=>⟨by have:=hal h;omega,by have:=hal h;omega⟩);rw[e6]at this;exact this _ _ _ _ _ _ _ _ _ _ _ _ _ _ _ _ _ _ _ _ _ _ _ _ _ _ _ _ _ _ _ _ _ _ _
theorem Yd(hi:qaC S h)(hx:zk h .u8 a bs)(L:bs.length<=1048576)(r:Rd)(ok:okR bs r) :
  zb oPP S Di #[rdV a c bs r] h (Qp h a c bs (ym bs r)):=by
 refine Mr (vs:=[.slice a bs.length c,.int .i64 r.i,.int .i64 r.k]) ⟨rfl,rfl,rfl,trivial⟩ hi ?_;simp only[Hw,Tr.wp,z8,Ex.ev,coerce,toInt_int,za,zd,zi,ze,zj,yg,zB,arith,Cst.val,SV.den,zq,zK,zz,zm,zl,zw,zY,zr,vF,vG,vA,vB,vC,vO,vU,vD,vE,vJ,vI,vK,uB,uF,uE,uA,uJ,vY,vL];obtain⟨ok0,ok1,ok2,ok3,ok4⟩:=J9 ok;have n1:=yl (bs:=bs) (n:=5) (r:=r);have n2:=yl (bs:=bs) (n:=5) (r:=xV bs r);have n3:=yl (bs:=bs) (n:=4) (r:=kQ bs r);have e5:(2:Int)^5=32:=by decide
 have e4:(2:Int)^4=16:=by decide
 have w1:IntKind.i64.wrap ((tk bs 5 r).2+257)=(tk bs 5 r).2+257:=i64_in _ (by omega);have w2:IntKind.i64.wrap ((tk bs 5 (xV bs r)).2+1)=(tk bs 5 (xV bs r)).2+1:=i64_in _ (by omega);have w3:IntKind.i64.wrap ((tk bs 4 (kQ bs r)).2+4)=(((tk bs 4 (kQ bs r)).2.toNat+4:Nat):Int):=z9;refine(yA hi hx L r ok 5).mono ?_;rintro _ h1 ⟨rfl,rfl⟩;refine⟨_,_,_,_,_,_,rfl,?_⟩;rw[w1];refine(xB hi a c bs (tk bs 5 r).1 (decide ((tk bs 5 r).2+257>286))).mono ?_;rintro _ h1 ⟨rfl,rfl⟩;refine⟨_,_,_,_,_,rfl,?_⟩;refine(yA hi hx L (xV bs r) ok0 5).mono ?_;rintro _ h1 ⟨rfl,rfl⟩;refine⟨_,_,_,_,_,_,rfl,?_⟩;rw[w2];refine(xB hi a c bs (tk bs 5 (xV bs r)).1 (decide ((tk bs 5 (xV bs r)).2+1>30))).mono ?_;rintro _ h1 ⟨rfl,rfl⟩;refine⟨_,_,_,_,_,rfl,?_⟩;refine(yA hi hx L (kQ bs r) ok1 4).mono ?_;rintro _ h1 ⟨rfl,rfl⟩;refine⟨_,_,_,_,_,_,rfl,?_⟩;rw[w3];intro b hb;have hsb:=Bo hi hb;have sx:∀ {h':qaA},qaB h1 h'->zk h' .u8 a bs:=fun s=>hx.sub s
 have ez:(#[Value.int .i64 0,.int .i64 0,.int .i64 0,.int .i64 0,.int .i64 0,.int .i64 0,.int .i64 0,.int .i64 0,.int .i64 0,.int .i64 0,.int .i64 0,.int .i64 0,.int .i64 0,.int .i64 0,.int .i64 0,.int .i64 0,.int .i64 0,.int .i64 0,.int .i64 0]:Array Value)=ints .i64 (List.replicate 19 0):=by rfl
 rw[ez];generalize hr2:(tk bs 4 (kQ bs r)).1=r2;generalize hn:(tk bs 4 (kQ bs r)).2.toNat+4=n;have hn19:n<=19:=by omega
 have okr2:okR bs r2:=hr2▸yp ok1;refine⟨fun us h'=>∃(j:Nat) (z:Int),us=[.int .i64 z,.int .i64 j,.slice a bs.length c,.int .i64 (sm bs r2 j).1.i,.int .i64 (sm bs r2 j).1.k]/\j<=n/\h' b=some (.cells (ints .i64 (sm bs r2 j).2) 2)/\qaB h1 h',fun us _=>n-(toInt (us.getD 1 undef)).toNat,⟨0,0,rfl,by omega,upd_same,Sub.zx hb⟩,?_⟩;rintro z y a' l' c' i' k' h' ⟨j,z',hx1,hj,hbj,s1⟩;simp only[uQ,uT,pA,pL,uA]at hx1;obtain⟨rfl,rfl,⟨rfl,rfl,rfl⟩,rfl,rfl⟩:=hx1;have okj:okR bs (sm bs r2 j).1:=Qo okr2;refine⟨fun hlt=>?_,fun hge=>?_⟩
 ·have hjn:j<n:=by omega
  refine(yA (hi.sub s1) (sx s1) L (sm bs r2 j).1 okj 3).mono ?_;rintro _ h2 ⟨rfl,rfl⟩;refine⟨_,_,_,_,_,_,rfl,?_⟩;refine(Wc (hi.sub s1)).mono ?_;rintro _ h3 ⟨b3,T3,hb3,rfl,rfl⟩;have s3:qaB h2 (upd h2 b3 (.cells (ints .i64 (ord.map Int.ofNat)) T3)):=Sub.zx hb3;have zg:Eng.zg (upd h2 b3 (.cells (ints .i64 (ord.map Int.ofNat)) T3)) ((((some (⟨b3,0,none⟩:Addr)).getD default).add ((j:Int).toNat*1)).add 0)=some (.int .i64 ((ord.getD j 0:Nat):Int)):=by
   rw[add_add,pE,y9];simp only[Eng.zg,upd_same,vV,pY,uI];simp[Eng.ints,-List.map_map,Tk (show j<19 by omega)]
  have hol:=Wf j (by omega);have hne:b3≠b:=fun e=>by rw[e,hbj]at hb3;cases hb3
  refine⟨_,_,_,rfl,rfl,by omega,by omega,_,zg,rfl,by omega,by omega,?_⟩;refine QY (i:=ord.getD j 0) (by rw[upd_ne (uW hne)];exact hbj) hsb (by rw[IY];exact hol) ?_;rw[show IntKind.i64.wrap ((j:Int)+1)=((j+1:Nat):Int) by rw[i64_in _ (by omega)];omega];refine⟨⟨j+1,_,rfl,by omega,upd_same,fun y o hy=>?_⟩,by simp only[vB,vA,toInt_int,vV];omega⟩;rw[upd_ne (fun e=>by rw[e,hb]at hy;cases hy)];exact s3 y o (s1 y o hy)
 ·obtain rfl:j=n:=by omega
  have e2:sm bs r2 j=xn bs r:=by unfold xn;rw[hr2,hn]
  rw[e2]at hbj okj ⊢;have hsl:(xn bs r).2.length=19:=by unfold xn;exact IY
  have hxb:zk h' .i64 (some ⟨b,0,none⟩) (xn bs r).2:=Mp hbj;have kh:=BF (S:=S) (hi.sub s1) (some ⟨b,0,none⟩) 19 (xn bs r).2 hxb;rw[hsl]at kh;refine kh.mono ?_;rintro _ h2 ⟨rfl,rfl⟩;refine⟨_,rfl,?_⟩;refine(xB (hi.sub s1) a' c' bs (xn bs r).1 (zu (xn bs r).2 != 1)).mono ?_;rintro _ h2 ⟨rfl,rfl⟩;refine⟨_,_,_,_,_,rfl,?_⟩;have O:tI.O h2 (.slice (some ⟨b,0,none⟩) 19 19) (xn bs r).2:=Mo hbj hsl;refine(qU (hi.sub s1) O (by show List.length _<=_;omega)).mono ?_;rintro v3 h3 ⟨OC,NC,s3⟩;obtain⟨s13,hs13⟩:∃s,s=s1.trans s3:=⟨_,rfl⟩;obtain⟨a3,c3,rfl,_,_⟩:=xG.yT OC;refine⟨_,_,_,rfl,fun b4 hb4=>?_⟩;have C:(Ha bs r).k=0->CodesAt h3 a3 (yH (xn bs r).2).length (zn (xn bs r).2):=fun hk=>by
   have hk1:zu (xn bs r).2=1:=by have:=(GZ.1 hk).2;simpa using this
   obtain⟨a3',c3',e,C⟩:=Li OC (by rw[hk1];omega);simp only[pA]at e;rw[e.1,e.2.1];exact C
  have s4:qaB h3 (upd h3 b4 (.cells (ints .i64 []) 2)):=Sub.zx hb4;have eL:Cl (Dr bs r) (qk bs r).1 (qk bs r).2=ym bs r:=rfl;have K:=ZX (z0:=z) (hi.sub s13) s4 (a:=a') (c:=c') (hx.sub s13) L (r:=Ha bs r) ok3 (all:=[]) (aa:=some ⟨b4,0,none⟩) (ca:=0) (Own.made (k:=.i64) (h:=h3) (b:=b4) (T:=2) []).part (New.of hb4) rfl
   (x6:=(tk bs 5 r).2) (x13:=(tk bs 5 (xV bs r)).2) ⟨by omega,by omega⟩ ⟨by omega,by omega⟩ (cc:=c3) C
  refine Tr.wp_mono (fun v h' hv=>?_) _ _ _ _ _ (KLe.refl _) (K _ _ _ _ _ _ _ _ _ _ _ _ _ _ _ _ _ _ _ _ _ _ _ _ _ _ _) (fun _ _ _ _ _ _ hh=>hh);obtain⟨u,w,e1,e2,e3,e4⟩:=hv;exact⟨u,w,e1,fun hk=>by obtain⟨p1,p2,p3,p4⟩:=e2 hk;exact⟨p1,p2,fun y hy=>zU s13 (p3 y hy),fun y hy=>zU s13 (p4 y hy)⟩,e3,s13.trans e4⟩
end
variable {b1 b2 bm c2 n3 n5 z:Nat}{p:Int}{PP TT:List (Nat×Nat)}{a2:Option Addr}{F:Rd×List Int×List Int}{r0:Rd}{T1 T2:TypeId}
section
section
structure MC where
 w:Value
 out:Value
 rm:Int
 last:Bool
 l:Value
 d:Value
def zV(a:Option Addr)(c:Nat)(bs:List Int)(p:Int)(m:MC)(T:TypeId):Obj:=
 .cells #[.slice a bs.length c,.int .i64 p,m.w,m.out,.int .i64 m.rm,.bool m.last,m.l,m.d] T
structure MAt(h0 h:qaA)(bm:Nat)(a:Option Addr)(c:Nat)(bs:List Int)(p:Int)(m:MC)(T:TypeId):Prop where
 hb:h bm=some (zV a c bs p m T)
 nb:h0 bm=none
 sb:qaB h0 h
structure Errs(h:qaA):Prop where
 e2:zg h ⟨4,0,none⟩=some (.int .i64 2)
 e3:zg h ⟨0,0,none⟩=some (.int .i64 3)
theorem Errs.sub(H:Errs h)(s:qaB h h'):Errs h':=⟨xJ s H.e2,xJ s H.e3⟩
def zG(k:Int):Value:=if k=0 then .nilIface else .iface tCl (.agg #[.int .i64 k])
theorem zy{k:Int}:xM (zG k)=decide (k=0):=by
 unfold zG;split
 ·rename_i h;simp[xM,h]
 ·rename_i h;simp[xM,h]
theorem zc{k:Int}:kV (zG k)=zG k:=by unfold zG;split <;> rfl
theorem Wh:zG 0=.nilIface:=rfl
theorem Tl{k:Int}(h:k≠0):zG k=.iface tCl (.agg #[.int .i64 k]):=vM h
theorem MAt.keep{p q:Int}{m:MC}(H:MAt h0 h bm a c bs p m T)(e:h'=upd h bm (zV a c bs q m T)):MAt h0 h' bm a c bs q m T:=by
 subst e;exact⟨upd_same,H.nb,fun y o hy=>by rw[upd_ne (fun e=>by rw[e,H.nb]at hy;cases hy)];exact H.sb y o hy⟩
section
variable {m:MC}
theorem yy(hb:h bm=some (zV a c bs p m T)):zg h ⟨bm,0,none⟩=some (.slice a bs.length c)/\zg h ⟨bm,1,none⟩=some (.int .i64 p)/\zg h ⟨bm,2,none⟩=some m.w/\zg h ⟨bm,3,none⟩=some m.out/\zg h ⟨bm,4,none⟩=some (.int .i64 m.rm)/\zg h ⟨bm,5,none⟩=some (.bool m.last)/\zg h ⟨bm,6,none⟩=some m.l/\zg h ⟨bm,7,none⟩=some m.d:=by
 simp[zg,hb,zV]
theorem Pe{p q:Int}(hb:h bm=some (zV a c bs p m T)):zJ h ⟨bm,1,none⟩ (.int .i64 q)=upd h bm (zV a c bs q m T):=by
 rw[hset_cells' hb];rfl
theorem kH(hb:h bm=some (zV a c bs p m T))(hs:¬S bm)(hc:zg h ⟨bm,i,none⟩=some v):yU S h ⟨bm,i,none⟩:=⟨⟨_,hc⟩,by simp[y8,hb,zV],hs⟩
theorem Wi(hi:qaC S h0)(hx:zk h0 .u8 a bs)(L:bs.length<=1048576)(p:Nat)(hp:p<=8*bs.length)(M:MAt h0 h bm a c bs p m T) :
  zb oPP S ji #[.pointer (some ⟨bm,0,none⟩)] h (fun v h'=>(p=8*bs.length/\v=.int .i64 (-1)/\h'=h)\/(p<8*bs.length/\v=.int .i64 (yN bs p)/\h'=upd h bm (zV a c bs ((p+1:Nat):Int) m T))):=by
 have hsb:¬S bm:=fun hs=>hi bm hs M.nb
 refine FY (vs:=[.pointer (some ⟨bm,0,none⟩)]) ⟨rfl,trivial⟩ (hi.sub M.sb) ?_;simp only[BR,Tr.wp,Ex.ev,coerce,toInt_int,za,zd,zi,ze,zj,zN,yg,yq,zB,arith,Cst.val,SV.den,zw,zr,ye,vA,vB,vO,vU,vD,vE,vJ,vI,uE,uI,uA,zp];obtain⟨g0,g1,_⟩:=yy M.hb;have w8:IntKind.i64.wrap (8*(bs.length:Int))=8*(bs.length:Int):=i64_in _ (by omega);have w1:IntKind.i64.wrap ((p:Int)+1)=((p+1:Nat):Int):=z9;have wd:IntKind.i64.wrap ((p:Int).tdiv 8)=((p/8:Nat):Int):=by rw[uL (by omega)];exact i64_in _ (by omega)
 have wm:(p:Int).tmod 8=((p%8:Nat):Int):=by rw[uG (by omega)];omega
 refine⟨by simp,p,g1,by simp,_,_,_,g0,fun hge=>?_,fun hlt=>?_⟩
 ·rw[w8]at hge;exact .inl (by omega)
 ·rw[w8]at hlt;have hlt:p<8*bs.length:=by omega
  have hpl:p/8<bs.length:=by omega
  refine⟨by simp,p,g1,by simp,p,g1,by simp,kH M.hb hsb g1,?_⟩;rw[w1,Pe M.hb];have M':=M.keep (q:=((p+1:Nat):Int)) rfl;obtain⟨k0,_⟩:=yy M'.hb;obtain⟨x1,x2⟩:=(hx.sub M'.sb).cell (vQ hpl);rw[wd,wm];refine⟨by simp,_,_,_,k0,by simpa using x2,by omega,by omega,bs[p/8],by simp only[vV,pY,add_add,uI];exact x1,by omega,.inr ⟨hlt,?_,rfl⟩⟩;rw[vV];have e:bs.getD (p/8) 0=bs[p/8]:=by simp[List.getD,vQ hpl]
  have e2:min (p%8) IntKind.u8.bits=p%8:=by
   have:IntKind.u8.bits=8:=rfl;rw[this];omega
  rw[e2,ZN,i64_in _ (by omega),yN,e]
theorem zbp{v:Int}(b:Int)(h0:0<=v)(h1:v<2^i)(hb:0<=b/\b<=1)(hi:i<62):Go.bits .or .i64 v (IntKind.i64.wrap (b*2^i))=v+b*2^i:=by
 have hp:(2:Int)^i<=2^61:=by
  rw[yG,yG];exact_mod_cast uX (by decide) (show i<=61 by omega)
 have hp0:(0:Int)<2^i:=nG (by decide);have hb1:0<=b*2^i/\b*2^i<=2^61:=by
  obtain rfl | rfl:b=0\/b=1:=by omega
  ·rw[Int.zero_mul];omega
  ·rw[Int.one_mul];omega
 have hw:IntKind.i64.wrap (b*2^i)=b*2^i:=i64_in _ (by omega);have h:=zbc b h0 h1 hb (show i<64 by omega);have hX:IntKind.u64.wrap ((BitVec.ofInt 64 v ||| BitVec.ofInt 64 (b*2^i)).toNat:Int)=v+b*2^i:=h;rw[hw];show IntKind.i64.wrap ((BitVec.ofInt 64 v ||| BitVec.ofInt 64 (b*2^i)).toNat:Int)=_;have hl:=(BitVec.ofInt 64 v ||| BitVec.ofInt 64 (b*2^i)).isLt;generalize (BitVec.ofInt 64 v ||| BitVec.ofInt 64 (b*2^i)).toNat=X at hX hl ⊢;rw[u64_in _ (by omega)]at hX;rw[hX];exact i64_in _ (by omega)
theorem EC(hi:qaC S h0)(G:Errs h0)(hx:zk h0 .u8 a bs)(L:bs.length<=1048576)(p:Nat)(hp:p<=8*bs.length)(n:Nat)(hn:n<=32)(M:MAt h0 h bm a c bs p m T) :
  zb oPP S zP #[.pointer (some ⟨bm,0,none⟩),.int .i64 n] h (fun v h'=>v=.tuple #[.int .i64 (tk bs n ⟨p,0⟩).2,zG (tk bs n ⟨p,0⟩).1.k]/\h'=upd h bm (zV a c bs (tk bs n ⟨p,0⟩).1.i m T)):=by
 refine Ek (vs:=[.pointer (some ⟨bm,0,none⟩),.int .i64 n]) ⟨rfl,rfl,trivial⟩ (hi.sub M.sb) ?_;simp only[AB,Tr.wp,z8,Ex.ev,coerce,toInt_int,za,zd,zi,ze,zj,zN,yq,zB,arith,Cst.val,SV.den,zq,zK,zz,zm,zl,zw,zY,zr,vF,vG,vA,vB,vC,vT,vO,vU,vD,vE,vJ,vI,vK,uE,uI,uA,vY,vL,zp];obtain⟨g0,g1,_⟩:=yy M.hb;have w8:IntKind.i64.wrap (8*(bs.length:Int))=8*(bs.length:Int):=i64_in _ (by omega);have ws:IntKind.i64.wrap (8*(bs.length:Int)-(p:Int))=8*(bs.length:Int)-(p:Int):=i64_in _ (by omega);refine⟨by simp,_,_,_,g0,by simp,p,g1,fun hgt=>?_,fun hle=>?_⟩
 ·rw[w8,ws]at hgt;have e:tk bs n ⟨(p:Int),0⟩=(⟨(p:Int),2⟩,0):=by unfold tk;rw[vP rfl,vP (by simp only;omega)]
  rw[e];exact⟨2,(G.sub M.sb).e2,rfl,(qb M.hb).symm⟩
 ·rw[w8,ws]at hle;have e:tk bs n ⟨(p:Int),0⟩=(⟨(p:Int)+n,0⟩,yo bs p n):=by unfold tk;rw[vP rfl,vM (by simp only;omega)];rfl
  rw[e];refine⟨fun us h'=>∃j:Nat,us=[.int .i64 (yo bs p j),.int .i64 j]/\j<=n/\h'=upd h bm (zV a c bs ((p+j:Nat):Int) m T),fun us _=>n-(toInt (us.getD 1 undef)).toNat,⟨0,rfl,by omega,(qb M.hb).symm⟩,?_⟩;rintro x y h' ⟨j,hx1,hj,rfl⟩;obtain⟨rfl,rfl⟩:x=yo bs p j/\y=j:=by simpa using hx1
  refine⟨fun hlt=>?_,fun hge=>?_⟩
  ·have hjn:j<n:=by omega
   refine(Wi hi hx L (p+j) (by omega) (M.keep rfl)).mono ?_;rintro _ h2 (⟨e1,_,_⟩ | ⟨_,rfl,rfl⟩)
   ·omega
   ·rw[xe];have lt:=wW (xs:=bs) (a:=p) (n:=j);have m64:min (j:Int).toNat IntKind.i64.bits=j:=by
     have:IntKind.i64.bits=64:=rfl;rw[this];omega
    have w2:IntKind.i64.wrap ((j:Int)+1)=((j+1:Nat):Int):=z9;refine⟨_,rfl,by omega,?_⟩;rw[m64,zbp _ lt.1 lt.2 Ce (by omega),w2];exact⟨⟨j+1,rfl,by omega,rfl⟩,by simp only[vB,vA,toInt_int,vV];omega⟩
  ·obtain rfl:j=n:=by omega
   refine⟨rfl,?_⟩;rw[show((p+j:Nat):Int)=(p:Int)+(j:Int) by omega]
end
end
section
theorem Tm{bs:List Int}{p:Nat}:∀ {n l:Nat},l<n->(((yo bs p n).toNat/2^l%2:Nat):Int)=yN bs (p+l)
 | 0,l,h=>by omega
 | n+1,l,h=>by
  have lt:=wW (xs:=bs) (a:=p) (n:=n);have hb:=Ce (xs:=bs) (i:=p+n);obtain⟨B,hB⟩:=vZ hb.1;obtain⟨N,hN⟩:=vZ lt.1;have e:(yo bs p (n+1)).toNat=N+2^n*B:=by
   have e1:yo bs p (n+1)=((N+2^n*B:Nat):Int):=by
    rw[yo,hN,hB];push_cast;rw[mM]
   rw[e1,vV]
  have hN2:N<2^n:=by
   have:=lt.2;rw[hN,yG]at this;exact_mod_cast this
  have hp:0<2^n:=fG n;rw[e];by_cases hl:l=n
  ·subst hl;rw[Nat.add_mul_div_left _ _ hp,Nat.div_eq_of_lt hN2,hB];omega
  ·have ih:=Tm (bs:=bs) (p:=p) (n:=n) (l:=l) (by omega);rw[hN,vV]at ih;rw[<-ih];obtain⟨d,rfl⟩:∃d,n=l+(d+1):=⟨n-l-1,by omega⟩;rw[Nat.pow_add,Nat.mul_assoc,Nat.add_mul_div_left _ _ (fG l),gW];have:2^d*2*B=2*(2^d*B):=by rw[Nat.mul_comm (2^d) 2,Nat.mul_assoc]
   rw[this];omega
section
variable {m:MC}
theorem ZY(hi:qaC S h0)(hx:zk h0 .u8 a bs)(L:bs.length<=1048576)(p:Nat)(hp:p<=8*bs.length)(M:MAt h0 h bm a c bs p m T)
  (TV:TabV h0 h bt TT PP a2 c2 (Em cs cs.length) (Ym cs cs.length))(hTl:TT.length<=20000)(hM:∀c∈cs,c.1<=15)(hbt:bt≠bm)(hbl:zf (.slice a2 TT.length c2)≠some bm)(hsl:Ym cs cs.length 0 0=0)(hcl:cs.length<=1000) :
  zb oPP S qd #[.pointer (some ⟨bt,0,none⟩),.func (.func ji) #[.pointer (some ⟨bm,0,none⟩)] #[]] h (fun v h'=>v=Uy (nxB bs cs p)/\∃p':Nat,p'<=8*bs.length/\h'=upd h bm (zV a c bs p' m T)/\((nxB bs cs p).1=1->(p':Int)=p+(nxB bs cs p).2.2)):=by
 refine Ej (vs:=[.pointer (some ⟨bt,0,none⟩),.func (.func ji) #[.pointer (some ⟨bm,0,none⟩)] #[]]) ⟨rfl,rfl,trivial⟩ (hi.sub TV.sb) ?_;simp only[AA,Tr.wp,z8,Ex.ev,coerce,toInt_int,za,zd,zi,ze,zj,zN,yg,yq,zB,arith,Cst.val,SV.den,zq,zK,zz,zm,zl,zw,zY,zr,vF,vG,vA,vB,vC,vO,vU,vD,vE,vJ,vI,vK,uE,uA,vY,vL];obtain⟨s0,q0,hT0⟩:=TV.ti.get TV.ti.root;have hk0:=(vS.1 hT0).1;obtain⟨g1,g2,g3⟩:=TV.cell hT0;obtain⟨n,hn⟩:∃n,n=look bs p:=⟨_,rfl⟩;obtain⟨b,hb⟩:∃b,b=(yo bs p n).toNat:=⟨_,rfl⟩;have hn15:n<=15:=hn▸Tj;have enx:nxB bs cs p=nxt cs b (n+1) 0:=by unfold nxB;rw[<-hn,<-hb]
 rw[enx];refine⟨by simp,_,_,_,by simpa[zp]using TV.ld,by simpa using g3,by simp,by omega,(s0:Int),(q0:Int),⟨by simpa[add_add]using g1,by simpa[add_add]using g2⟩,?_⟩;have tv:∀q:Int,TabV h0 (upd h bm (zV a c bs q m T)) bt TT PP a2 c2 (Em cs cs.length) (Ym cs cs.length):=fun q=>
  ⟨by obtain⟨TY,hb⟩:=TV.hb;exact⟨TY,(upd_ne hbt).trans hb⟩,TV.ow.keep fun z hz=>upd_ne fun e=>hbl (e▸hz),TV.nw,TV.nb,TV.ne,TV.ti,(M.keep (q:=q) rfl).sb⟩
 refine⟨fun us h'=>∃(l k s q:Nat),us=[.int .i64 l,.int .i64 s,.int .i64 q]/\TT[k]? = some (s,q)/\PP[k]? = some (l,b%2^l)/\l<=n/\h'=upd h bm (zV a c bs ((p+l:Nat):Int) m T)/\nxt cs b (n+1) 0=nxt cs b (n+1-l) l,fun us _=>n-(toInt (us.getD 0 undef)).toNat,⟨0,0,s0,q0,rfl,hT0,by rw[TV.ti.root];simp[Nat.mod_one],by omega,(qb M.hb).symm,rfl⟩,?_⟩;rintro x y z h' ⟨l,k,s,q,hx1,hT,hP,hl,rfl,hnx⟩;obtain⟨rfl,rfl,rfl⟩:x=l/\y=s/\z=q:=by simpa using hx1
 obtain⟨f,hf⟩:∃f,n+1-l=f+1:=⟨n-l,by omega⟩;have hnx2:nxt cs b (n+1) 0=(if s≠0 then(1,(s:Int)-1,(l:Int))else if Ec cs l (b%2^l)then nxt cs b f (l+1)else(0,0,0)):=by rw[hnx,hf,nxt,<-TV.ti.sym hT hP]
 have hsub:=(tv ((p+l:Nat):Int)).sb;have hsy:s<=cs.length:=by
  rw[TV.ti.sym hT hP];by_cases h0:Ym cs cs.length l (b%2^l)=0
  ·omega
  ·obtain⟨t,ht,_,_,e⟩:=Gl h0;omega
 have hpl:p+l<=8*bs.length:=by unfold look at hn;omega
 refine⟨fun hs=>?_,fun hs=>⟨fun hq=>?_,fun hq=>?_⟩⟩
 ·rw[hnx2,vP (by omega)];refine⟨?_,p+l,hpl,rfl,fun _=>by simp only;omega⟩;unfold Uy;simp only;rw[i64_in _ (by omega)]
 ·have hs0:s=0:=by omega
  have hq0:q=0:=by have:(q:Int)=0:=uP.1 hq;omega
  have hE:¬Ec cs l (b%2^l):=fun h=>by
   have:=(TV.ti.ext hT hP).2 (Oa.2 h);exact this hq0
  rw[hnx2,vM (by omega),vM hE];exact⟨rfl,p+l,hpl,rfl,fun h=>by cases h⟩
 ·have hs0:s=0:=by omega
  have hqn:q≠0:=fun e=>by subst e;simp at hq
  have hE:Ec cs l (b%2^l):=Oa.1 ((TV.ti.ext hT hP).1 hqn);rw[vM (by omega),vP hE]at hnx2;obtain⟨k0,k1⟩:=TV.ti.kid hT hP hqn;have hkk:=(vS.1 k1).1;rw[TV.ti.len]at hkk;have hl15:l<15:=zcy hM hE;refine⟨_,_,_,rfl,?_⟩;refine(Wi hi hx L (p+l) hpl (M.keep (q:=((p+l:Nat):Int)) rfl)).mono ?_;rintro _ h4 (⟨e8,rfl,rfl⟩ | ⟨hln,rfl,rfl⟩)
  ·refine⟨_,rfl,fun _=>?_,fun h=>by omega⟩;have:f=0:=by unfold look at hn;omega
   rw[hnx2,this];exact⟨rfl,p+l,hpl,rfl,fun h=>by cases h⟩
  ·rw[xe];have hb01:=Ce (xs:=bs) (i:=p+l);have hlt:l<n:=by unfold look at hn;omega
   have hbit:yN bs (p+l)=((b/2^l%2:Nat):Int):=by rw[hb,Tm hlt]
   rw[hbit]at hb01 ⊢;refine⟨_,rfl,fun h=>by omega,fun _=>?_⟩;have w1:IntKind.i64.wrap ((q:Int)+((b/2^l%2:Nat):Int))=((q+b/2^l%2:Nat):Int):=z9;have w2:IntKind.i64.wrap ((l:Int)+1)=((l+1:Nat):Int):=z9;have hP':PP[q+b/2^l%2]? = some (l+1,b%2^(l+1)):=by
    rw[Ri];rcases(show b/2^l%2=0\/b/2^l%2=1 by omega)with h | h <;> rw[h]
    ·simpa using k0
    ·simpa using k1
   obtain⟨s',q',hT'⟩:=TV.ti.get hP';have TV':=tv ((p+l+1:Nat):Int);obtain⟨g4,g5,g6⟩:=TV'.cell hT';rw[w1,w2];refine⟨by simp,_,_,_,by simpa[zp]using TV'.ld,by simpa using g6,by omega,by omega,(s':Int),(q':Int),⟨by simp only[vV,add_add,uI];exact g4,by simp only[vV,add_add];exact g5⟩,⟨l+1,_,s',q',rfl,hT',hP',by omega,rfl,?_⟩,by simp only[vA,toInt_int];omega⟩;rw[hnx2];congr 1;omega
theorem Pf(hi:qaC S h0)(G:Errs h0)(hx:zk h0 .u8 a bs)(L:bs.length<=1048576)(p:Nat)(hp:p<=8*bs.length)(M:MAt h0 h bm a c bs p m T)
  (TV:TabV h0 h bt TT PP a2 c2 (Em cs cs.length) (Ym cs cs.length))(hTl:TT.length<=20000)(hM:∀c∈cs,c.1<=15)(hbt:bt≠bm)(hbl:zf (.slice a2 TT.length c2)≠some bm)(hsl:Ym cs cs.length 0 0=0)(hcl:cs.length<=1000) :
  zb oPP S xg #[.pointer (some ⟨bm,0,none⟩),.pointer (some ⟨bt,0,none⟩)] h (fun v h'=>v=.tuple #[.int .i64 (sy bs cs ⟨p,0⟩).2,zG (sy bs cs ⟨p,0⟩).1.k]/\∃p':Nat,p'<=8*bs.length/\h'=upd h bm (zV a c bs p' m T)/\((sy bs cs ⟨p,0⟩).1.k=0->(p':Int)=(sy bs cs ⟨p,0⟩).1.i)):=by
 refine El (vs:=[.pointer (some ⟨bm,0,none⟩),.pointer (some ⟨bt,0,none⟩)]) ⟨rfl,rfl,trivial⟩ (hi.sub M.sb) ?_;simp only[AD,Tr.wp,z8,Ex.ev,coerce,toInt_int,za,zj,zN,zB,Cst.val,SV.den,zq,zK,zz,zm,zl,zw,zr,vF,vG,vA,vB,vD,vE,vJ,vI,vK,uE,uA,vY,vL];refine(ZY hi hx L p hp M TV hTl hM hbt hbl hsl hcl).mono ?_;rintro _ h1 ⟨rfl,p',hp',rfl,hpe⟩;have hf:=Bd (bs:=bs) (cs:=cs) (i:=p);have M':=M.keep (q:=(p':Int)) rfl;have es:sy bs cs ⟨(p:Int),0⟩=(⟨(p:Int)+(nxB bs cs p).2.2,if(nxB bs cs p).1=2 then 2 else if(nxB bs cs p).1=0 then 3 else 0⟩,(nxB bs cs p).2.1):=by unfold sy;rw[vP rfl];rfl
 rw[es];obtain⟨⟨x1,x2,x3⟩,hxx⟩:∃x,nxB bs cs p=x:=⟨_,rfl⟩;rw[hxx]at hf hpe ⊢;simp only at hf hpe ⊢;have ge:=G.sub M'.sb;refine⟨_,_,_,rfl,fun h1=>?_,fun h1=>⟨fun h2=>?_,fun h2=>?_⟩⟩
 ·obtain rfl:x1=0:=uP.1 h1;obtain⟨rfl,rfl⟩:x2=0/\x3=0:=by rcases hf with hf | hf <;> omega
  exact⟨3,ge.e3,rfl,p',hp',rfl,fun h=>by cases h⟩
 ·obtain rfl:x1=2:=uP.1 h2;obtain⟨rfl,rfl⟩:x2=0/\x3=0:=by rcases hf with hf | hf <;> omega
  exact⟨2,ge.e2,rfl,p',hp',rfl,fun h=>by cases h⟩
 ·have n0:x1≠0:=by simpa using h1
  have n2:x1≠2:=by simpa using h2
  obtain rfl:x1=1:=by rcases hf with hf | hf <;> omega
  exact⟨rfl,p',hp',rfl,fun _=>hpe rfl⟩
end
end
section
def cel(v:Value)(T:TypeId):Obj:=.cells #[v] T
theorem jN(hb:h b=some (cel v T)):zg h ⟨b,0,none⟩=some v:=by simp[zg,hb,cel]
theorem ED(hb:h b=some (cel v T))(hs:¬S b):yU S h ⟨b,0,none⟩:=⟨⟨_,jN hb⟩,by simp[y8,hb,cel],hs⟩
theorem jZ{v w:Value}(hb:h b=some (cel v T)):zJ h ⟨b,0,none⟩ w=upd h b (cel w T):=by
 rw[hset_cells' hb];rfl
structure LS(h0 h:qaA)(b1 b2 bm:Nat)(a:Option Addr)(c:Nat)(bs:List Int)(m:MC)(T T1 T2:TypeId)(r:Rd):Prop where
 c1:h b1=some (cel (.pointer (some ⟨bm,0,none⟩)) T1)
 c2:h b2=some (cel (zG r.k) T2)
 mt:∃p':Nat,p'<=8*bs.length/\h bm=some (zV a c bs p' m T)/\(r.k=0->r.i=p')
 n1:h0 b1=none
 n2:h0 b2=none
 nm:h0 bm=none
 d12:b1≠b2
 d1m:b1≠bm
 d2m:b2≠bm
 sb:qaB h0 h
section
variable {m:MC}
theorem LS.sub(H:LS h0 h b1 b2 bm a c bs m T T1 T2 r)(s:qaB h h'):LS h0 h' b1 b2 bm a c bs m T T1 T2 r:=by
 obtain⟨p',h1,h2,h3⟩:=H.mt;exact⟨s _ _ H.c1,s _ _ H.c2,⟨p',h1,s _ _ h2,h3⟩,H.n1,H.n2,H.nm,H.d12,H.d1m,H.d2m,H.sb.trans s⟩
theorem LS.err(H:LS h0 h b1 b2 bm a c bs m T T1 T2 r){r':Rd}(hr:r'.k=0->r.k=0/\r'.i=r.i):LS h0 (upd h b2 (cel (zG r'.k) T2)) b1 b2 bm a c bs m T T1 T2 r':=by
 obtain⟨p',h1,h2,h3⟩:=H.mt;exact⟨(upd_ne H.d12).trans H.c1,upd_same,⟨p',h1,(upd_ne (uW H.d2m)).trans h2,fun h=>(hr h).2.trans (h3 (hr h).1)⟩,H.n1,H.n2,H.nm,H.d12,H.d1m,H.d2m,fun y o hy=>by rw[upd_ne (fun e=>by rw[e,H.n2]at hy;cases hy)];exact H.sb y o hy⟩
def Oth(b2 bm:Nat)(h h':qaA):Prop:=∀b,b≠bm->b≠b2->h' b=h b
theorem Oth.Ye{v:Obj}:Oth b2 bm h (upd h b2 v):=fun b _ h2=>upd_ne h2
theorem Oth.Yf{v:Obj}:Oth b2 bm h (upd h bm v):=fun b h1 _=>upd_ne h1
theorem Oth.trans{h1 h2:qaA}(H:Oth b2 bm h h1)(G:Oth b2 bm h1 h2):Oth b2 bm h h2:=fun b x y=>(G b x y).trans (H b x y)
theorem Fh(hi:qaC S h0)(G:Errs h0)(hx:zk h0 .u8 a bs)(L:bs.length<=1048576)(ok:okR bs r)(H:LS h0 h b1 b2 bm a c bs m T T1 T2 r)(n:Nat)(hn:n<=32:=by omega) :
  zb oPP S yI #[.int .i64 n,.pointer (some ⟨b2,0,none⟩),.pointer (some ⟨b1,0,none⟩)] h (fun v h'=>v=.int .i64 (tk bs n r).2/\LS h0 h' b1 b2 bm a c bs m T T1 T2 (tk bs n r).1/\Oth b2 bm h h'):=by
 refine En (vs:=[.int .i64 n,.pointer (some ⟨b2,0,none⟩),.pointer (some ⟨b1,0,none⟩)]) ⟨rfl,rfl,rfl,trivial⟩ (hi.sub H.sb) ?_;simp only[AE,Tr.wp,z8,Ex.ev,coerce,toInt_int,za,zj,zN,Cst.val,SV.den,zq,zK,zz,zm,zl,zw,zr,ye,vF,vG,vA,vB,vC,vD,vE,vJ,vI,vK,uB,uF,uE,uI,uA,uJ,vY,vL,zp];refine⟨zG r.k,zc,jN H.c2,fun hz=>?_,fun hz _=>?_⟩
 ·rw[zc,zy]at hz;have hk:r.k=0:=nX hz;obtain⟨p',hp,hm,he⟩:=H.mt;obtain⟨i,k⟩:=r;obtain rfl:k=0:=hk;obtain rfl:i=(p':Int):=he rfl;have hp2:∃p2:Nat,p2<=8*bs.length/\(tk bs n ⟨(p':Int),0⟩).1.i=p2:=by
   unfold tk;rw[vP rfl];split
   ·exact⟨p',hp,rfl⟩
   ·rename_i h;simp only at h;exact⟨p'+n,by omega,by simp only;omega⟩
  obtain⟨p2,hp2,e2⟩:=hp2;refine⟨_,jN H.c1,(EC hi G hx L p' hp n hn ⟨hm,H.nm,H.sb⟩).mono ?_⟩;rintro _ h1 ⟨rfl,rfl⟩;have hc2:=(upd_ne (o:=zV a c bs (tk bs n ⟨(p':Int),0⟩).1.i m T) H.d2m).trans H.c2;refine⟨_,zG _,zc,by rw[zc],ED hc2 (fun hs=>hi b2 hs H.n2),fun _=>⟨rfl,?_,?_⟩⟩
  ·rw[zc,jZ hc2];refine⟨(upd_ne H.d12).trans ((upd_ne H.d1m).trans H.c1),upd_same,⟨p2,hp2,by rw[<-e2];exact(upd_ne (uW H.d2m)).trans upd_same,fun _=>e2⟩,H.n1,H.n2,H.nm,H.d12,H.d1m,H.d2m,fun y o hy=>?_⟩;rw[upd_ne (fun e=>by rw[e,H.n2]at hy;cases hy),upd_ne (fun e=>by rw[e,H.nm]at hy;cases hy)];exact H.sb y o hy
  ·rw[zc,jZ hc2];exact Oth.trans Oth.Yf Oth.Ye
 ·rw[zc,zy]at hz;have hk:r.k≠0:=nS hz;have e:tk bs n r=(r,0):=by unfold tk;rw[vM hk]
  rw[e];exact⟨rfl,H,fun _ _ _=>rfl⟩
def mkL(h0:qaA)(l:List Nat):qaA:=fun z=>if z∈l then some (cel .nilIface 0)else h0 z
theorem Ag{l:List Nat}:mkL h0 l z=none<->z∉l/\h0 z=none:=by
 unfold mkL;by_cases h:z∈l
 ·rw[vP h];simp[h]
 ·rw[vM h];simp[h]
abbrev mk2(h0:qaA)(b1 b2 bm:Nat):qaA:=mkL h0 [b1,b2,bm]
theorem qW(H:mk2 h0 b1 b2 bm z=none):z≠bm/\z≠b2/\z≠b1/\h0 z=none:=by
 obtain⟨h1,h2⟩:=Ag.1 H;simp only[uU,pB,nA,hZ]at h1;exact⟨h1.2.2,h1.2.1,h1.1,h2⟩
theorem Wj(h1:z≠bm)(h2:z≠b2)(h3:z≠b1)(H:h0 z=none):mk2 h0 b1 b2 bm z=none:=Ag.2 ⟨by simp[h1,h2,h3],H⟩
theorem NM.base(N:qaD (mk2 h0 b1 b2 bm) v):qaD h0 v:=fun z hz=>(qW (N z hz)).2.2.2
theorem LS.free(H:LS h0 h b1 b2 bm a c bs m T T1 T2 r)(hz:h z=none):mk2 h0 b1 b2 bm z=none:=by
 obtain⟨p',_,h2,_⟩:=H.mt;exact Wj (fun e=>by rw[e,h2]at hz;cases hz) (fun e=>by rw[e,H.c2]at hz;cases hz) (fun e=>by rw[e,H.c1]at hz;cases hz) (zU H.sb hz)
theorem LS.new(H:LS h0 h b1 b2 bm a c bs m T T1 T2 r)(hz:h z=none):qaD (mk2 h0 b1 b2 bm) (.slice (some ⟨z,0,none⟩) l k):=New.of (H.free hz)
theorem LS.kept(H:LS h0 h b1 b2 bm a c bs m T T1 T2 r)(N:qaD (mk2 h0 b1 b2 bm) v)(hk:∀b,h b≠none->zf v≠some b->h' b=h b)(s:qaB h0 h'):LS h0 h' b1 b2 bm a c bs m T T1 T2 r:=by
 obtain⟨p',h1,h2,h3⟩:=H.mt;have e1:=hk b1 (by rw[H.c1];simp) fun e=>(qW (N b1 e)).2.2.1 rfl
 have e2:=hk b2 (by rw[H.c2];simp) fun e=>(qW (N b2 e)).2.1 rfl
 have e3:=hk bm (by rw[h2];simp) fun e=>(qW (N bm e)).1 rfl
 exact⟨e1.trans H.c1,e2.trans H.c2,⟨p',h1,e3.trans h2,h3⟩,H.n1,H.n2,H.nm,H.d12,H.d1m,H.d2m,s⟩
theorem NM.keep{k:IntKind}(N:qaD (mk2 h0 b1 b2 bm) v)(P:Part k h v xs)(O:Oth b2 bm h h'):Part k h' v xs:=P.keep fun z hz=>O z (qW (N z hz)).1 (qW (N z hz)).2.1
def AN(h0:qaA)(bm:Nat)(a:Option Addr)(c:Nat)(bs:List Int)(m:MC)(T:TypeId)(F:Rd×List Int×List Int)(v:Value)(h':qaA):Prop:=
 ∃u w,v=.tuple #[u,w,zG F.1.k]/\(∃p':Nat,p'<=8*bs.length/\MAt h0 h' bm a c bs p' m T/\(F.1.k=0->F.1.i=p'))/\(F.1.k=0->Part .i64 h' u F.2.1/\Part .i64 h' w F.2.2/\qaD h0 u/\qaD h0 w)/\(∃a1 l1 c1 a2 l2 c2,u=.slice a1 l1 c1/\w=.slice a2 l2 c2)
theorem LS.bad(H:LS h0 h b1 b2 bm a c bs m T T1 T2 r)(hF:F.1.k≠0){e:Value}(he:e=zG F.1.k):AN h0 bm a c bs m T F (.tuple #[.slice none 0 0,.slice none 0 0,e]) h:=by
 subst he;obtain⟨p',h1,h2,h3⟩:=H.mt;exact⟨_,_,rfl,⟨p',h1,⟨h2,H.nm,H.sb⟩,fun h=>absurd h hF⟩,fun h=>absurd h hF,⟨_,_,_,_,_,_,rfl,rfl⟩⟩
theorem LS.fail(hi:qaC S h0)(G:Errs h0)(H:LS h0 h b1 b2 bm a c bs m T T1 T2 r)(hF:F.1.k=3) :
  ∃x,zg h ⟨0,0,none⟩=some (Value.int .i64 x)/\yU S h ⟨b2,0,none⟩/\∃v,kV v=v/\zg (zJ h ⟨b2,0,none⟩ (.iface tCl (.agg (jf (.tuple (#[.int .i64 x]++jf (.tuple #[]))))))) ⟨b2,0,none⟩=some v /\
   AN h0 bm a c bs m T F (.tuple #[.slice none 0 0,.slice none 0 0,kV v]) (zJ h ⟨b2,0,none⟩ (.iface tCl (.agg (jf (.tuple (#[.int .i64 x]++jf (.tuple #[]))))))):=by
 have e3:(.iface tCl (.agg (jf (.tuple (#[.int .i64 3]++jf (.tuple #[]))))):Value)=zG (3:Int):=rfl;have H':=H.err (r':=⟨0,3⟩) (fun h=>by cases h);refine⟨3,(G.sub H.sb).e3,ED H.c2 (fun hs=>hi b2 hs H.n2),zG 3,zc,?_,?_⟩
 ·rw[e3,jZ H.c2];exact jN upd_same
 ·rw[e3,jZ H.c2,zc];exact H'.bad (by omega) (by rw[hF])
theorem zc1(hi:qaC S h0)(G:Errs h0)(H:LS h0 h b1 b2 bm a c bs m T T1 T2 r)(hk:r.k=0)(P:Part .i64 h (.slice aa all.length ca) all)(N:qaD (mk2 h0 b1 b2 bm) (.slice aa all.length ca)){x3:Int}(hx3:0<=x3/\x3<32)
  (hlen:(x3+257).toNat+1<=all.length/\all.length<=1000)(K0 K1 K2 K3 K4 K5:Kt)(e0 e1 e4 e5 e6 e7 e8 e9 e10 e11 e12 e13 e14:Value) :
  mlE.wp oPP S yk (AN h0 bm a c bs m T (Cl (x3+257).toNat r all)) [e0,e1,.pointer (some ⟨b2,0,none⟩),.int .i64 x3,e4,e5,e6,e7,e8,e9,e10,e11,e12,e13,e14,.slice aa all.length ca] h [K0,K1,K2,K3,K4,K5]:=by
 obtain⟨n6,rfl⟩:=vZ hx3.1;have w6:IntKind.i64.wrap ((n6:Int)+257)=((n6+257:Nat):Int):=z9;have e6:((n6:Int)+257).toNat=n6+257:=by omega
 rw[e6]at hlen ⊢;simp only[mlE,Tr.wp,z8,Ex.ev,coerce,toInt_int,za,zd,zi,ze,zj,xu,j7,qa,wE,zB,arith,Cst.val,SV.den,zq,zK,zz,zm,zl,zw,zr,ye,vF,vG,vA,vB,vO,vD,vE,vJ,vI,vK,uI,uA,vY,vL,zp,w6];obtain⟨l1,l2⟩:=hlen;have e:Cl (n6+257) r all=(bd (Hb (all.take (n6+257)) (all.drop (n6+257))) r,all.take (n6+257),all.drop (n6+257)):=vP hk;rw[e];obtain⟨_,_,ei,hca,gi⟩:=P.ints;cases ei
 obtain⟨aL,cL,eL,PL,NL,nL⟩:=P.zbd N (n:=n6+257) (m:=n6+257) (by omega) (by omega) (by omega);obtain⟨aR,cR,eR,PR,NR⟩:=P.from N (n:=n6+257) (by omega) hca;rw[vV,eL,eR];have lL:(all.take (n6+257)).length=n6+257:=by rw[pW];omega
 obtain⟨_,_,ei,_,gL⟩:=PL.ints;cases ei
 obtain⟨_,_,ei,_,gR⟩:=PR.ints;cases ei
 refine⟨by omega,by omega,by omega,by omega,by omega,by omega,?_⟩;refine(wO (hi.sub H.sb) aL cL _ gL).mono ?_;rintro _ hq ⟨rfl,rfl⟩;refine⟨_,rfl,?_⟩;refine(wO (hi.sub H.sb) aR cR _ gR).mono ?_;rintro _ hq ⟨rfl,rfl⟩;refine⟨_,rfl,?_⟩;have g256:(all.take (n6+257))[256]? = some ((all.take (n6+257)).getD 256 0):=by simp[List.getD,show 256<all.length by omega]
 obtain⟨g1,g2⟩:=gL.cell g256;have hbad:Hb (all.take (n6+257)) (all.drop (n6+257))=((all.take (n6+257)).getD 256 0==0||(!(zu (all.take (n6+257))==1||zu (all.take (n6+257))==4)) || !(zu (all.drop (n6+257))==1||zu (all.drop (n6+257))==4||zu (all.drop (n6+257))==5)):=rfl;generalize Hb (all.take (n6+257)) (all.drop (n6+257))=B at hbad ⊢;generalize (all.take (n6+257)).getD 256 0=y at g1 hbad;refine⟨by rw[yg,nL (by omega)];rfl,by simp,by simp only[zd,lL];omega,y,by simp only[ze,add_add];exact g1,?_⟩;clear gi g1 g256;refine⟨fun hb=>?_,fun hb=>?_⟩
 ·have hB:B=true:=by
   rw[hbad];simp only[bne,gA]at hb;revert hb;cases (y==0) <;> cases (zu (all.take (n6+257))==1) <;> cases (zu (all.take (n6+257))==4) <;> cases (zu (all.drop (n6+257))==1) <;> cases (zu (all.drop (n6+257))==4) <;> cases (zu (all.drop (n6+257))==5) <;> simp
  subst hB;exact H.fail hi G (by simp[bd,hk])
 ·have hB:B=false:=by
   rw[hbad];simp only[bne,gA]at hb;revert hb;cases (y==0) <;> cases (zu (all.take (n6+257))==1) <;> cases (zu (all.take (n6+257))==4) <;> cases (zu (all.drop (n6+257))==1) <;> cases (zu (all.drop (n6+257))==4) <;> cases (zu (all.drop (n6+257))==5) <;> simp
  subst hB;have H':=H.err (r':=r) (fun h=>⟨hk,rfl⟩);rw[hk,Wh]at H';refine⟨ED H.c2 (fun hs=>hi b2 hs H.n2),.nilIface,rfl,?_,?_⟩
  ·rw[jZ H.c2];exact jN upd_same
  ·rw[jZ H.c2];obtain⟨p',q1,q2,q3⟩:=H'.mt;have eb:bd false r=r:=by unfold bd;rw[vM (by simp)]
   rw[eb];refine⟨_,_,by rw[hk];rfl,⟨p',q1,⟨q2,H.nm,H'.sb⟩,q3⟩,fun _=>⟨NM.keep NL PL Oth.Ye,NM.keep NR PR Oth.Ye,NM.base NL,NM.base NR⟩,⟨_,_,_,_,_,_,rfl,rfl⟩⟩
end
end
section
section
variable {m:MC}{TT PP:List (Nat × Nat)}{cs:List (Nat × Nat)}
structure Tb(h0 h:qaA)(b1 b2 bm bt:Nat)(TT PP:List (Nat×Nat))(a2:Option Addr)(c2:Nat)(cs:List (Nat×Nat)):Prop where
 tv:TabV h0 h bt TT PP a2 c2 (Em cs cs.length) (Ym cs cs.length)
 dt:bt≠b1/\bt≠b2/\bt≠bm
 ds:∀z,zf (.slice a2 TT.length c2)=some z->z≠b1/\z≠b2/\z≠bm
abbrev mkT(h0:qaA)(b1 b2 bm bt:Nat)(a2:Option Addr)(n c2:Nat):qaA:=mkL h0 ([b1,b2,bm,bt]++(zf (.slice a2 n c2)).toList)
theorem EE:mkT h0 b1 b2 bm bt a2 n c2 z=none<->z≠b1/\z≠b2/\z≠bm/\z≠bt/\zf (.slice a2 n c2)≠some z/\h0 z=none:=by
 rw[Ag];cases zf (.slice a2 n c2)with
 | none=>simp[and_assoc]
 | some y=>simp[and_assoc,eq_comm]
theorem Yg(N:qaD (mkT h0 b1 b2 bm bt a2 n c2) v):qaD h0 v:=fun z hz=>(EE.1 (N z hz)).2.2.2.2.2
theorem DM(N:qaD (mkT h0 b1 b2 bm bt a2 n c2) v):qaD (mk2 h0 b1 b2 bm) v:=fun z hz=>by
 have:=EE.1 (N z hz);exact Wj this.2.2.1 this.2.1 this.1 this.2.2.2.2.2
theorem Tb.free(B:Tb h0 h b1 b2 bm bt TT PP a2 c2 cs)(H:LS h0 h b1 b2 bm a c bs m T T1 T2 r)(hz:h z=none):mkT h0 b1 b2 bm bt a2 TT.length c2 z=none:=by
 obtain⟨h1,h2,h3,h4⟩:=qW (H.free hz);refine EE.2 ⟨h3,h2,h1,fun e=>?_,fun e=>B.tv.ow.held z e hz,h4⟩;obtain⟨TY,hb⟩:=B.tv.hb;rw[e,hb]at hz;cases hz
theorem Tb.new(B:Tb h0 h b1 b2 bm bt TT PP a2 c2 cs)(H:LS h0 h b1 b2 bm a c bs m T T1 T2 r)(hz:h z=none):qaD (mkT h0 b1 b2 bm bt a2 TT.length c2) (.slice (some ⟨z,0,none⟩) l k):=New.of (B.free H hz)
theorem Tb.app(B:Tb h0 h b1 b2 bm bt TT PP a2 c2 cs)(H:LS h0 h b1 b2 bm a c bs m T T1 T2 r){v v':Value}(N:qaD (mkT h0 b1 b2 bm bt a2 TT.length c2) v)(hr:zf v'=zf v\/qaD h v'):qaD (mkT h0 b1 b2 bm bt a2 TT.length c2) v':=fun z hz=>by
 rcases hr with hr | hr
 ·exact N z (hr▸hz)
 ·exact B.free H (hr z hz)
theorem Tb.same(B:Tb h0 h b1 b2 bm bt TT PP a2 c2 cs)(h1:h' bt=h bt)(h2:∀z,zf (.slice a2 TT.length c2)=some z->h' z=h z)(s:qaB h0 h'):Tb h0 h' b1 b2 bm bt TT PP a2 c2 cs:=
 ⟨⟨by obtain⟨TY,hb⟩:=B.tv.hb;exact⟨TY,h1.trans hb⟩,B.tv.ow.keep h2,B.tv.nw,B.tv.nb,B.tv.ne,B.tv.ti,s⟩,B.dt,B.ds⟩
theorem Tb.sub(B:Tb h0 h b1 b2 bm bt TT PP a2 c2 cs)(s:qaB h h'):Tb h0 h' b1 b2 bm bt TT PP a2 c2 cs:=by
 refine B.same ?_ (fun z hz=>?_) (B.tv.sb.trans s)
 ·obtain⟨TY,hb⟩:=B.tv.hb;rw[hb];exact s _ _ hb
 ·have:=B.tv.ow.held z hz;cases e:h z with
  | none=>exact absurd e this
  | some o=>exact s _ _ e
theorem Tb.oth(B:Tb h0 h b1 b2 bm bt TT PP a2 c2 cs)(O:Oth b2 bm h h')(s:qaB h0 h'):Tb h0 h' b1 b2 bm bt TT PP a2 c2 cs:=
 B.same (O bt B.dt.2.2 B.dt.2.1) (fun z hz=>O z (B.ds z hz).2.2 (B.ds z hz).2.1) s
theorem Tb.kept(B:Tb h0 h b1 b2 bm bt TT PP a2 c2 cs)(N:qaD (mkT h0 b1 b2 bm bt a2 TT.length c2) v)(hk:∀b,h b≠none->zf v≠some b->h' b=h b)(s:qaB h0 h'):Tb h0 h' b1 b2 bm bt TT PP a2 c2 cs:=by
 refine B.same (hk bt ?_ fun e=>(EE.1 (N bt e)).2.2.2.1 rfl) (fun z hz=>hk z (B.tv.ow.held z hz) fun e=>(EE.1 (N z e)).2.2.2.2.1 hz) s;obtain⟨TY,hb⟩:=B.tv.hb;rw[hb];simp
theorem zc2(hi:qaC S h0)(G:Errs h0)(H:LS h0 h b1 b2 bm a c bs m T T1 T2 r)(B:Tb h0 h b1 b2 bm bt TT PP a2 c2 cs)(P:Part .i64 h (.slice aa all.length ca) all)(N:qaD (mkT h0 b1 b2 bm bt a2 TT.length c2) (.slice aa all.length ca))(hl:all.length<=1000)(h3:n3<32)(h5:n5<32)(t:Nat)(ht:t<=1000)(w:Int)
  (hF:r.k≠0->F.1.k=r.k)(hover:r.k=0->n3+257+(n5+1)<all.length+t->F.1.k=3)(K0 K1 K2 K3 K4 K5 K6:Kt)
  (hgo:r.k=0->all.length+t<=n3+257+(n5+1)->∀a' c' h',LS h0 h' b1 b2 bm a c bs m T T1 T2 r->Tb h0 h' b1 b2 bm bt TT PP a2 c2 cs->Part .i64 h' (.slice a' (all++List.replicate t w).length c') (all++List.replicate t w)->qaD (mkT h0 b1 b2 bm bt a2 TT.length c2) (.slice a' (all++List.replicate t w).length c')->K4 [.slice a' (all++List.replicate t w).length c'] h')
  (e0 e1 e4 e6 e7 e8 e9 e10 e11 e12 e13 e14 e16 e17 e18:Value) :
  mlR.wp oPP S yk (AN h0 bm a c bs m T F) [e0,e1,.pointer (some ⟨b2,0,none⟩),.int .i64 n3,e4,.int .i64 n5,e6,e7,e8,e9,e10,e11,e12,e13,e14,.slice aa all.length ca,e16,e17,e18,.int .i64 w,.int .i64 t] h [K0,K1,K2,K3,K4,K5,K6]:=by
 have w3:IntKind.i64.wrap ((n3:Int)+257)=((n3+257:Nat):Int):=z9;have w5:IntKind.i64.wrap ((n5:Int)+1)=((n5+1:Nat):Int):=z9;have wt:IntKind.i64.wrap (((n3+257:Nat):Int)+((n5+1:Nat):Int))=((n3+257+(n5+1):Nat):Int):=z9;have ws:IntKind.i64.wrap (((n3+257+(n5+1):Nat):Int)-(all.length:Int))=((n3+257+(n5+1):Nat):Int)-(all.length:Int):=i64_in _ (by omega);simp only[mlR,Tr.wp,Ex.ev,coerce,toInt_int,za,zd,zi,ze,zj,zB,arith,Cst.val,SV.den,zw,zY,zr,ye,vA,vB,vC,vT,vO,vU,vD,vE,vJ,vI,uI,uA,vY,vL,zp,w3,w5,wt,ws];refine⟨zG r.k,zc,jN H.c2,fun hz=>?_,fun hz=>⟨fun hgt=>?_,fun hle=>?_⟩⟩
 ·rw[zc,zy]at hz;have hk:r.k≠0:=by simpa using hz
  refine⟨zG r.k,zc,jN H.c2,ED H.c2 (fun hs=>hi b2 hs H.n2),zG r.k,zc,?_,?_⟩
  ·rw[zc,jZ H.c2];exact jN upd_same
  ·rw[zc,jZ H.c2];have H':=H.err (r':=r) (fun h=>⟨h,rfl⟩);exact H'.bad (by rw[hF hk];exact hk) (by rw[hF hk])
 ·rw[zc,zy]at hz;have hk:r.k=0:=by simpa using hz
  exact H.fail hi G (hover hk (by omega))
 ·rw[zc,zy]at hz;have hk:r.k=0:=by simpa using hz
  have hle2:all.length+t<=n3+257+(n5+1):=by omega
  refine⟨fun us h'=>∃(i:Nat) (a':Option Addr) (c':Nat),us=[.slice a' (all++List.replicate i w).length c',.int .i64 i]/\i<=t/\Part .i64 h' (.slice a' (all++List.replicate i w).length c') (all++List.replicate i w)/\qaD (mkT h0 b1 b2 bm bt a2 TT.length c2) (.slice a' (all++List.replicate i w).length c')/\LS h0 h' b1 b2 bm a c bs m T T1 T2 r/\Tb h0 h' b1 b2 bm bt TT PP a2 c2 cs,
   fun us _=>t-(toInt (us.getD 1 undef)).toNat,⟨0,aa,ca,by simp,by omega,by simpa using P,by simpa using N,H,B⟩,?_⟩
  rintro a1 l1 c1 y h' ⟨i,a2',c2',hx1,hi2,P2,N2,H2,B2⟩;simp only[uQ,uT,pA,pL,uA]at hx1;obtain⟨⟨rfl,rfl,rfl⟩,rfl⟩:=hx1;refine⟨fun hlt b hnb=>?_,fun hge=>?_⟩
  ·have w2:IntKind.i64.wrap ((i:Int)+1)=((i+1:Nat):Int):=z9;have sb:qaB h' (upd h' b (.cells (ints .i64 [w]) 2)):=Sub.zx hnb;have H3:=H2.sub sb;have B3:=B2.sub sb;have hlen:(all++List.replicate i w).length=all.length+i:=by simp
   refine zI (xs:=all++List.replicate i w) (a:=some ⟨b,0,none⟩) (c:=1) hi H3.sb (P2.sub sb) (Yg N2) (ys:=[w]) zk.new (by rw[hlen];simp only[uD];omega) fun v' h3 o n3 s4 hk4 hr4=>?_
   have el:(all++List.replicate i w)++[w]=all++List.replicate (i+1) w:=by rw[vX,gS]
   rw[el]at o;have N4:=B3.app H3 N2 hr4;have H4:=H3.kept (DM N2) hk4 s4;have B4:=B3.kept N2 hk4 s4;obtain⟨a4,c4,rfl,_,_⟩:=o.ints;simp only[ze,zd,zi,w2];exact⟨⟨i+1,a4,c4,rfl,by omega,o,N4,H4,B4⟩,by simp only[vB,vA,toInt_int,vV];omega⟩
  ·obtain rfl:i=t:=by omega
   exact hgo hk hle2 _ _ _ H2 B2 P2 N2
theorem zc3(hi:qaC S h0)(G:Errs h0)(hx:zk h0 .u8 a bs)(L:bs.length<=1048576)(H:LS h0 h b1 b2 bm a c bs m T T1 T2 r)(hk:r.k=0)(B:Tb h0 h b1 b2 bm bt TT PP a2 c2 cs)(hM:∀c∈cs,c.1<=15)(hTl:TT.length<=20000)(hcl:cs.length<=1000)
  (P:Part .i64 h (.slice aa all.length ca) all)(N:qaD (mkT h0 b1 b2 bm bt a2 TT.length c2) (.slice aa all.length ca))(h3:n3<32)(h5:n5<32)(hl:all.length<n3+257+(n5+1))
  (hF:(lg1 bs cs (n3+257+(n5+1)) r all).1.k≠0->F.1.k=(lg1 bs cs (n3+257+(n5+1)) r all).1.k)(K0 K1 K2 K3 K4 K5:Kt)
  (hgo:(lg1 bs cs (n3+257+(n5+1)) r all).1.k=0->∀a' c' h',LS h0 h' b1 b2 bm a c bs m T T1 T2 (lg1 bs cs (n3+257+(n5+1)) r all).1->Tb h0 h' b1 b2 bm bt TT PP a2 c2 cs->Part .i64 h' (.slice a' (lg1 bs cs (n3+257+(n5+1)) r all).2.length c') (lg1 bs cs (n3+257+(n5+1)) r all).2->qaD (mkT h0 b1 b2 bm bt a2 TT.length c2) (.slice a' (lg1 bs cs (n3+257+(n5+1)) r all).2.length c')->K4 [.slice a' (lg1 bs cs (n3+257+(n5+1)) r all).2.length c'] h')
  (e0 e4 e6 e7 e8 e9 e10 e11 e12 e14:Value) :
  mlB.wp oPP S yk (AN h0 bm a c bs m T F) [e0,.pointer (some ⟨b1,0,none⟩),.pointer (some ⟨b2,0,none⟩),.int .i64 n3,e4,.int .i64 n5,e6,e7,e8,e9,e10,e11,e12,.pointer (some ⟨bt,0,none⟩),e14,.slice aa all.length ca] h [K0,K1,K2,K3,K4,K5]:=by
 simp only[mlB,Tr.wp,z8,Ex.ev,coerce,toInt_int,za,zd,zi,ze,zj,zN,yg,zB,arith,Cst.val,SV.den,zq,zK,zz,zm,zl,zw,zr,ye,vF,vG,vA,vB,vC,vT,vO,vD,vE,vJ,vI,vK,uB,uF,uE,uI,uA,uJ,vY,vL,zp];obtain⟨p',hp,hm,he⟩:=H.mt;obtain⟨i,k⟩:=r;obtain rfl:k=0:=hk;obtain rfl:i=(p':Int):=he rfl;refine⟨_,jN H.c1,?_⟩;refine(Pf hi G hx L p' hp ⟨hm,H.nm,H.sb⟩ B.tv hTl hM B.dt.2.2 (fun e=>(B.ds bm e).2.2 rfl) (Rf _) hcl).mono ?_;rintro _ h1 ⟨rfl,p2,hp2,rfl,hpe⟩;have H1:∀r':Rd,r'.k=0->r'.i=(p2:Int)->LS h0 (upd h bm (zV a c bs p2 m T)) b1 b2 bm a c bs m T T1 T2 r':=fun r' q1 q2=>
  ⟨(upd_ne H.d1m).trans H.c1,by rw[q1];exact(upd_ne H.d2m).trans H.c2,⟨p2,hp2,upd_same,fun _=>q2⟩,H.n1,H.n2,H.nm,H.d12,H.d1m,H.d2m,fun y o hy=>by rw[upd_ne (fun e=>by rw[e,H.nm]at hy;cases hy)];exact H.sb y o hy⟩
 have B1:Tb h0 (upd h bm (zV a c bs p2 m T)) b1 b2 bm bt TT PP a2 c2 cs:=B.oth Oth.Yf (H1 ⟨p2,0⟩ rfl rfl).sb;have P1:Part .i64 (upd h bm (zV a c bs p2 m T)) (.slice aa all.length ca) all:=NM.keep (DM N) P Oth.Yf;generalize upd h bm (zV a c bs p2 m T)=h1 at H1 B1 P1 ⊢;obtain⟨tot,htot⟩:∃tot,tot=n3+257+(n5+1):=⟨_,rfl⟩;rw[<-htot]at hF hgo hl;have elg:lg1 bs cs tot ⟨(p':Int),0⟩ all=if(sy bs cs ⟨(p':Int),0⟩).1.k=0 then(bd (decide (tot<(rp bs (sy bs cs ⟨(p':Int),0⟩).1 all (sy bs cs ⟨(p':Int),0⟩).2).2.length)) (rp bs (sy bs cs ⟨(p':Int),0⟩).1 all (sy bs cs ⟨(p':Int),0⟩).2).1,(rp bs (sy bs cs ⟨(p':Int),0⟩).1 all (sy bs cs ⟨(p':Int),0⟩).2).2)else((sy bs cs ⟨(p':Int),0⟩).1,all):=rfl
 obtain⟨⟨r1,x⟩,hs⟩:∃q,sy bs cs ⟨(p':Int),0⟩=q:=⟨_,rfl⟩;rw[hs]at elg hpe ⊢;simp only at elg hpe ⊢;refine⟨x,zG r1.k,zc,by rw[zc],fun hz=>?_,fun hz=>?_⟩
 ·rw[zc,zy]at hz;have hk1:r1.k≠0:=by simpa using hz
  rw[vM hk1]at elg;rw[elg]at hF;have H2:=H1 ⟨p2,0⟩ rfl rfl;refine⟨ED H2.c2 (fun hs=>hi b2 hs H.n2),zG r1.k,zc,?_,?_⟩
  ·rw[zc,jZ H2.c2];exact jN upd_same
  ·rw[zc,jZ H2.c2];have H':=H2.err (r':=r1) (fun h=>absurd h hk1);exact H'.bad (by rw[hF hk1];exact hk1) (by rw[hF hk1])
 ·rw[zc,zy]at hz;have hk1:r1.k=0:=by simpa using hz
  rw[vP hk1]at elg;have H2:=H1 r1 hk1 (hpe hk1).symm;have ok1:okR bs r1:=fun _=>by rw[<-hpe hk1];omega
  have fin:∀(r2:Rd) (t:Nat) (w:Int) (h':qaA),rp bs r1 all x=(r2,if r2.k=0 then all++List.replicate t w else all)->t<=1000->LS h0 h' b1 b2 bm a c bs m T T1 T2 r2->Tb h0 h' b1 b2 bm bt TT PP a2 c2 cs->Part .i64 h' (.slice aa all.length ca) all->∀e16 e17 e18,
    mlR.wp oPP S yk (AN h0 bm a c bs m T F) [e0,.pointer (some ⟨b1,0,none⟩),.pointer (some ⟨b2,0,none⟩),.int .i64 n3,e4,.int .i64 n5,e6,e7,e8,e9,e10,e11,e12,.pointer (some ⟨bt,0,none⟩),e14,.slice aa all.length ca,e16,e17,e18,.int .i64 w,.int .i64 t] h' [K0,K1,K2,K3,K4,K5,fun _ _=>False]:=by
   intro r2 t w h' erp ht H3 B3 P3 e16 e17 e18;rw[erp]at elg;simp only at elg;refine zc2 hi G H3 B3 P3 N (by omega) h3 h5 t ht w (fun hk2=>?_) (fun hk2 hov=>?_) K0 K1 K2 K3 K4 K5 _ (fun hk2 hle a' c' h'' H4 B4 P4 N4=>?_) _ _ _ _ _ _ _ _ _ _ _ _ _ _ _
   ·have e:bd (decide (tot<(if r2.k=0 then all++List.replicate t w else all).length)) r2=r2:=by unfold bd;rw[vM (fun h=>hk2 h.1)]
    rw[e]at elg;rw[elg]at hF;exact hF hk2
   ·have e:(bd (decide (tot<(if r2.k=0 then all++List.replicate t w else all).length)) r2).k=3:=by
     rw[vP hk2,pZ (by rw[vR,pI];omega)];unfold bd;rw[vP ⟨hk2,rfl⟩]
    rw[elg]at hF;rw[hF (by rw[e];decide),e]
   ·have e:lg1 bs cs tot ⟨(p':Int),0⟩ all=(r2,all++List.replicate t w):=by
     rw[elg,vP hk2,pR (by rw[vR,pI];omega)];unfold bd;rw[vM (fun h=>by cases h.2)]
    rw[e]at hgo;exact hgo hk2 a' c' h'' H4 B4 P4 N4
  have n2:=yl (bs:=bs) (n:=2) (r:=r1);have nn3:=yl (bs:=bs) (n:=3) (r:=r1);have n7:=yl (bs:=bs) (n:=7) (r:=r1);have q2:(2:Int)^2=4:=by decide
  have q3:(2:Int)^3=8:=by decide
  have q7:(2:Int)^7=128:=by decide
  refine⟨fun h16=>⟨fun h0=>?_,fun h0=>?_⟩,fun h16=>⟨fun h17=>?_,fun h17=>⟨fun h18=>?_,fun h18 _ _ _=>?_⟩⟩⟩
  ·obtain rfl:x=16:=uP.1 h16;have hall:all.length=0:=by have:(all.length:Int)=0:=uP.1 h0;omega
   refine H2.fail hi G ?_;have e1:(rp bs r1 all 16).1.k=3:=by
    unfold rp;rw[vP rfl];have eb:bd (all.length==0) r1=⟨r1.i,3⟩:=by unfold bd;rw[vP ⟨hk1,by rw[hall];rfl⟩]
    rw[eb];unfold tk;rw[vM (by simp)]
   have e2:(lg1 bs cs tot ⟨(p':Int),0⟩ all).1.k=3:=by
    rw[elg];simp only;unfold bd;rw[vM (fun h=>by rw[e1]at h;cases h.1)];exact e1
   rw[hF (by rw[e2];decide),e2]
  ·obtain rfl:x=16:=uP.1 h16;have hall:all.length≠0:=fun e=>by rw[e]at h0;cases h0
   have wl:IntKind.i64.wrap ((all.length:Int)-1)=((all.length-1:Nat):Int):=z9;have wt:IntKind.i64.wrap ((tk bs 2 r1).2+3)=(((tk bs 2 r1).2+3).toNat:Int):=z9;obtain⟨_,_,ei,_,gi⟩:=P1.ints;cases ei
   have g? : all[all.length-1]? = some (all.getD (all.length-1) 0):=by simp[List.getD,vQ (show all.length-1<all.length by omega)]
   obtain⟨g1,g2⟩:=gi.cell g?;have eb:bd (all.length==0) r1=r1:=by unfold bd;rw[vM (fun h=>hall (by simpa using h.2))]
   rw[wl];refine⟨by simpa using g2,by omega,by omega,_,by simp only[vV,pY,add_add,uI];exact g1,?_⟩;refine(Fh hi G hx L ok1 H2 2).mono ?_;rintro _ h2 ⟨rfl,H3,O3⟩;have P3:=NM.keep (DM N) P1 O3;have B3:=B1.oth O3 H3.sb;refine⟨_,rfl,fun p hp=>?_,fun _=>?_⟩
   ·obtain rfl:=uO.1 hp;obtain⟨_,_,ei,_,gi3⟩:=P3.ints;cases ei
    obtain⟨g3,_⟩:=gi3.cell g?;simp only[Ex.ev,coerce,toInt_int,zd,zi,ze,zj,arith,Cst.val,vA,vB,wl,vV,pY];exact g3
   ·rw[wt];refine fin (tk bs 2 r1).1 _ _ h2 ?_ (by omega) H3 B3 P3 _ _ _;unfold rp;rw[vP rfl,eb]
  ·obtain rfl:x=17:=uP.1 h17;have wt:IntKind.i64.wrap ((tk bs 3 r1).2+3)=(((tk bs 3 r1).2+3).toNat:Int):=z9;refine(Fh hi G hx L ok1 H2 3).mono ?_;rintro _ h2 ⟨rfl,H3,O3⟩;refine⟨_,rfl,fun _ _=>?_⟩;rw[wt];refine fin (tk bs 3 r1).1 _ _ h2 ?_ (by omega) H3 (B1.oth O3 H3.sb) (NM.keep (DM N) P1 O3) _ _ _;unfold rp;rw[vM (by decide),vP rfl]
  ·obtain rfl:x=18:=uP.1 h18;have wt:IntKind.i64.wrap ((tk bs 7 r1).2+11)=(((tk bs 7 r1).2+11).toNat:Int):=z9;refine(Fh hi G hx L ok1 H2 7).mono ?_;rintro _ h2 ⟨rfl,H3,O3⟩;refine⟨_,rfl,fun _ _ _=>?_⟩;rw[wt];refine fin (tk bs 7 r1).1 _ _ h2 ?_ (by omega) H3 (B1.oth O3 H3.sb) (NM.keep (DM N) P1 O3) _ _ _;unfold rp;rw[vM (by decide),vM (by decide),vP rfl]
  ·refine fin r1 1 x h1 ?_ (by omega) H2 B1 P1 _ _ _;unfold rp;rw[vM (by simpa using h16),vM (by simpa using h17),vM (by simpa using h18)];rfl
end
end
section
section
variable {m:MC}
theorem Pg(hok:hok xs):∀c∈zn xs,c.1<=15:=fun c hc=>by
 obtain⟨j,hj⟩:=mF hc;have hj2:j<(yM xs).length:=by rw[jx,<-xA];exact(vS.1 hj).1
 obtain⟨l,b,_,h2,h3,_⟩:=ku hok (vQ hj2);rw[hj]at h2;have:=pT h2;rw[this];exact h3
theorem zc4(hi:qaC S h0)(G:Errs h0)(hx:zk h0 .u8 a bs)(L:bs.length<=1048576)(H:LS h0 h b1 b2 bm a c bs m T T1 T2 r){bc:Nat}{Tc:TypeId}(hbc:h bc=some (.cells (ints .i64 xs) Tc))(hxl:xs.length=19)(h3:n3<32)(h5:n5<32)
  (K0 K1:Kt)(e0 e4 e6 e7 e8 e10:Value) :
  mlC.wp oPP S yk (AN h0 bm a c bs m T (Cl (n3+257) (lg bs (zn xs) (n3+257+(n5+1)) (bd (zu xs != 1) r) []).1 (lg bs (zn xs) (n3+257+(n5+1)) (bd (zu xs != 1) r) []).2)) [e0,.pointer (some ⟨b1,0,none⟩),.pointer (some ⟨b2,0,none⟩),.int .i64 n3,e4,.int .i64 n5,e6,e7,e8,.slice (some ⟨bc,0,none⟩) 19 19,e10] h [K0,K1]:=by
 have w3:IntKind.i64.wrap ((n3:Int)+257)=((n3+257:Nat):Int):=z9;have w5:IntKind.i64.wrap ((n5:Int)+1)=((n5+1:Nat):Int):=z9;have wt:IntKind.i64.wrap (((n3+257:Nat):Int)+((n5+1:Nat):Int))=((n3+257+(n5+1):Nat):Int):=z9;simp only[mlC,Tr.wp,z8,Ex.ev,coerce,toInt_int,za,zd,zi,ze,zj,zN,zB,arith,Cst.val,SV.den,zq,zK,zz,zm,zl,zw,zY,zr,ye,vF,vG,vA,vB,vO,vU,vD,vE,vJ,vI,vK,uI,uA,vY,vL,zp,w3,w5,wt];obtain⟨tot,htot⟩:∃tot,tot=n3+257+(n5+1):=⟨_,rfl⟩;rw[<-htot];have gi:zk h .i64 (some ⟨bc,0,none⟩) xs:=Mp hbc;refine⟨zG r.k,zc,jN H.c2,fun hz=>?_,fun hz=>?_⟩
 ·rw[zc,zy]at hz;have hk:r.k≠0:=by simpa using hz
  have e1:bd (zu xs != 1) r=r:=by unfold bd;rw[vM (fun h=>hk h.1)]
  have e2:Cl (n3+257) (lg bs (zn xs) tot (bd (zu xs != 1) r) []).1 (lg bs (zn xs) tot (bd (zu xs != 1) r) []).2=(r,[],[]):=by
   rw[e1,j5 (fun h=>hk h.1)];exact vM hk
  rw[e2];refine⟨zG r.k,zc,jN H.c2,ED H.c2 (fun hs=>hi b2 hs H.n2),zG r.k,zc,?_,?_⟩
  ·rw[zc,jZ H.c2];exact jN upd_same
  ·rw[zc,jZ H.c2];have H':=H.err (r':=r) (fun h=>⟨h,rfl⟩);exact H'.bad hk rfl
 ·rw[zc,zy]at hz;have hk:r.k=0:=by simpa using hz
  have kh:=wO (S:=S) (hi.sub H.sb) (some ⟨bc,0,none⟩) 19 xs gi;rw[hxl]at kh;refine kh.mono ?_;rintro _ hq ⟨rfl,rfl⟩;refine⟨_,rfl,fun hne=>?_,fun heq=>?_⟩
  ·have hne:(zu xs != 1)=true:=hne;have e1:bd (zu xs != 1) r=⟨r.i,3⟩:=by unfold bd;rw[vP ⟨hk,hne⟩]
   have e2:Cl (n3+257) (lg bs (zn xs) tot (bd (zu xs != 1) r) []).1 (lg bs (zn xs) tot (bd (zu xs != 1) r) []).2=(⟨r.i,3⟩,[],[]):=by
    rw[e1,j5 (fun h=>by cases h.1)];exact vM (by simp)
   rw[e2];exact H.fail hi G rfl
  ·have hk1:zu xs=1:=by simpa using heq
   have e1:bd (zu xs != 1) r=r:=by unfold bd;rw[vM (fun h=>by rw[hk1]at h;cases h.2)]
   rw[e1];obtain⟨_,hok⟩:=jH (xs:=xs) (by rw[hk1];decide);have O:tI.O hq (.slice (some ⟨bc,0,none⟩) 19 19) xs:=Mo hbc hxl;have kt:=CQ (S:=S) (hi.sub H.sb) (some ⟨bc,0,none⟩) 19 xs (by rw[hxl];exact O) (by show List.length _<=_;omega) (by rw[hk1];decide);rw[hxl]at kt;refine kt.mono ?_;rintro _ h6 ⟨bt,TT,PP,a2,c2,rfl,TV,hTl⟩;have hcl:(zn xs).length=19:=by rw[xA,hxl]
   rw[<-hcl]at TV;have H6:=H.sub TV.sb;obtain⟨p',hp,hm,_⟩:=H.mt;have B6:Tb h0 h6 b1 b2 bm bt TT PP a2 c2 (zn xs):=⟨⟨TV.hb,TV.ow,fun y hy=>zU H.sb (TV.nw y hy),zU H.sb TV.nb,TV.ne,TV.ti,H.sb.trans TV.sb⟩,
    ⟨fun e=>(by have:=TV.nb;rw[e,H.c1]at this;cases this),fun e=>(by have:=TV.nb;rw[e,H.c2]at this;cases this),fun e=>(by have:=TV.nb;rw[e,hm]at this;cases this)⟩,
    fun z hz=>⟨fun e=>(by have:=TV.nw z hz;rw[e,H.c1]at this;cases this),fun e=>(by have:=TV.nw z hz;rw[e,H.c2]at this;cases this),fun e=>(by have:=TV.nw z hz;rw[e,hm]at this;cases this)⟩⟩
   refine⟨_,rfl,?_⟩;intro b hb;have sb:qaB h6 (upd h6 b (.cells (ints .i64 []) 2)):=Sub.zx hb;refine⟨fun us h'=>∃(r':Rd) (all':List Int) (a':Option Addr) (c':Nat),us=[.slice a' all'.length c']/\r'.k=0/\LS h0 h' b1 b2 bm a c bs m T T1 T2 r'/\Tb h0 h' b1 b2 bm bt TT PP a2 c2 (zn xs)/\Part .i64 h' (.slice a' all'.length c') all'/\qaD (mkT h0 b1 b2 bm bt a2 TT.length c2) (.slice a' all'.length c')/\all'.length<=tot/\lg bs (zn xs) tot r []=lg bs (zn xs) tot r' all',
    fun us _=>tot-slL (us.getD 0 undef),⟨r,[],_,_,rfl,hk,H6.sub sb,B6.sub sb,(Own.made (k:=.i64) (h:=h6) (b:=b) (T:=2) []).part,B6.new H6 hb,by simp,rfl⟩,?_⟩
   rintro a1 l1 c1 h' ⟨r',all',a',c',hx1,hk',H',B',P',N',hl',hlg⟩;simp only[uQ,pA,uA]at hx1;obtain⟨rfl,rfl,rfl⟩:=hx1;rw[hlg];refine⟨fun hlt=>?_,fun hge=>?_⟩
   ·have hlt:all'.length<n3+257+(n5+1):=by omega
    have len:=Ck (bs:=bs) (cs:=zn xs) (tot:=tot) (r:=r') (all:=all');have st:=DL (bs:=bs) (cs:=zn xs) (tot:=tot) (r:=r') (all:=all') ⟨hk',by omega⟩;rw[st];refine zc3 hi G hx L H' hk' B' (Pg hok) hTl (by omega) P' N' h3 h5 hlt (fun hk2=>?_) K0 K1 _ _ _ _ (fun hk2 a' c' h'' H2 B2 P2 N2=>?_) _ _ _ _ _ _ _ _ _ _
    ·rw[<-htot]at hk2 ⊢;rw[j5 (fun h=>hk2 h.1)];have e3:Cl (n3+257) (lg1 bs (zn xs) tot r' all').1 (lg1 bs (zn xs) tot r' all').2=((lg1 bs (zn xs) tot r' all').1,[],[]):=vM hk2;rw[e3]
    ·rw[<-htot]at hk2 H2 P2 N2 ⊢;exact⟨⟨_,_,a',c',rfl,hk2,H2,B2,P2,N2,(len.2.2 hk2).2,rfl⟩,by simp only[vA,zd];have:=len.2.2 hk2;omega⟩
   ·have hnl:¬(r'.k=0/\all'.length<tot):=fun h=>hge (by omega)
    rw[j5 hnl];have e6:((n3:Int)+257).toNat=n3+257:=by omega
    have K:=zc1 hi G H' hk' P' (DM N') (x3:=(n3:Int)) ⟨by omega,by omega⟩ (by omega) K0 K1;rw[e6]at K;exact K _ _ _ _ _ _ _ _ _ _ _ _ _ _ _ _ _
theorem zbq(e3:(tk bs 5 r0).2=(n3:Int))(e5:(tk bs 5 (xV bs r0)).2=(n5:Int)) :
  Cl (n3+257) (lg bs (zn (xn bs r0).2) (n3+257+(n5+1)) (bd (zu (xn bs r0).2 != 1) (xn bs r0).1) []).1 (lg bs (zn (xn bs r0).2) (n3+257+(n5+1)) (bd (zu (xn bs r0).2 != 1) (xn bs r0).1) []).2=ym bs r0:=by
 have h1:Dr bs r0=n3+257:=by unfold Dr;rw[e3];omega
 have h2:J8 bs r0=n5+1:=by unfold J8;rw[e5];omega
 have:ym bs r0=Cl (Dr bs r0) (qk bs r0).1 (qk bs r0).2:=rfl;rw[this];unfold qk Ha;rw[h1,h2]
theorem zc5(hi:qaC S h0)(G:Errs h0)(hx:zk h0 .u8 a bs)(L:bs.length<=1048576)(ok:okR bs r0)(H:LS h0 h b1 b2 bm a c bs m T T1 T2 (kQ bs r0))(e3:(tk bs 5 r0).2=(n3:Int))(e5:(tk bs 5 (xV bs r0)).2=(n5:Int))
  (e0 e4 e6:Value) :
  ml3.wp oPP S yk (AN h0 bm a c bs m T (ym bs r0)) [e0,.pointer (some ⟨b1,0,none⟩),.pointer (some ⟨b2,0,none⟩),.int .i64 n3,e4,.int .i64 n5,e6] h []:=by
 obtain⟨ok0,ok1,ok2,ok3,ok4⟩:=J9 ok;have n1:=yl (bs:=bs) (n:=5) (r:=r0);have n2:=yl (bs:=bs) (n:=5) (r:=xV bs r0);have nn:=yl (bs:=bs) (n:=4) (r:=kQ bs r0);have q5:(2:Int)^5=32:=by decide
 have q4:(2:Int)^4=16:=by decide
 have w3:IntKind.i64.wrap ((tk bs 4 (kQ bs r0)).2+4)=(((tk bs 4 (kQ bs r0)).2.toNat+4:Nat):Int):=z9;simp only[ml3,Tr.wp,KI,z8,Ex.ev,coerce,toInt_int,za,zd,ze,zj,yg,zB,arith,Cst.val,SV.den,zq,zK,zz,zm,zl,yF,zw,zY,zr,vF,vG,vA,vB,vC,vO,vU,vD,vE,vJ,vI,vK,uE,uI,uA,vY,vL,zp];refine(Fh hi G hx L ok1 H 4).mono ?_;rintro _ h1 ⟨rfl,H1,O1⟩;refine⟨_,rfl,?_⟩;rw[w3];intro b8 hb8;have w19:IntKind.i64.wrap 19=19:=i64_in _ (by omega);have t19:(19:Int).toNat=19:=rfl;have hs8:¬S b8:=fun hs=>hi b8 hs (zU H1.sb hb8)
 refine Fy hs8 _ 0 _ _ upd_same (by simp) ?_;rw[xe,w19,t19];obtain⟨T8,hT8⟩:∃T8:TypeId,T8=221:=⟨_,rfl⟩;obtain⟨h2,hh2⟩:∃h2,h2=upd h1 b8 (.cells (ints .i64 (ord.map Int.ofNat)) 221):=⟨_,rfl⟩;have eo:upd h1 b8 (.cells (qw (List.replicate 19 (Value.int .i64 0)) (0+0) [Value.int .i64 16,Value.int .i64 17,Value.int .i64 18,Value.int .i64 0,Value.int .i64 8,Value.int .i64 7,Value.int .i64 9,Value.int .i64 6,Value.int .i64 10,Value.int .i64 5,Value.int .i64 11,Value.int .i64 4,Value.int .i64 12,Value.int .i64 3,Value.int .i64 13,Value.int .i64 2,Value.int .i64 14,Value.int .i64 1,Value.int .i64 15]).toArray 221)=h2:=by rw[hh2];rfl
 rw[eo];have s2:qaB h1 h2:=by rw[hh2];exact Sub.zx hb8
 have h28:h2 b8=some (.cells (ints .i64 (ord.map Int.ofNat)) 221):=by rw[hh2,upd_same]
 have H2:=H1.sub s2;clear eo hh2 hT8;refine⟨by omega,by omega,by decide,fun b hb=>?_⟩;rw[pY,Bp];have sb:qaB h2 (upd h2 b (.cells (ints .i64 (List.replicate 19 0)) 2)):=Sub.zx hb;have hne8:b8≠b:=fun e=>by rw[<-e,h28]at hb;cases hb
 have N:qaD (mk2 h0 b1 b2 bm) (.slice (some ⟨b,0,none⟩) 19 19):=H2.new hb;obtain⟨nb1,nb2,nb3,nb4⟩:=qW (N b rfl);have N8:=H1.free hb8;obtain⟨n81,n82,n83,_⟩:=qW N8;have hsb:¬S b:=fun hs=>hi b hs nb4
 generalize hr2:(tk bs 4 (kQ bs r0)).1=r2 at H1 H2;generalize hn:(tk bs 4 (kQ bs r0)).2.toNat+4=n;have hn19:n<=19:=by omega
 have okr2:okR bs r2:=hr2▸yp ok1;refine⟨fun us h'=>∃(j:Nat),us=[.int .i64 j]/\j<=n/\h' b=some (.cells (ints .i64 (sm bs r2 j).2) 2)/\h' b8=some (.cells (ints .i64 (ord.map Int.ofNat)) 221)/\LS h0 h' b1 b2 bm a c bs m T T1 T2 (sm bs r2 j).1,fun us _=>n-(toInt (us.getD 0 undef)).toNat,⟨0,rfl,by omega,upd_same,(upd_ne hne8).trans h28,H2.sub sb⟩,?_⟩;rintro y h' ⟨j,hx1,hj,hbj,h8j,HJ⟩;simp only[uQ,uT,pL,uA]at hx1;subst hx1;have okj:okR bs (sm bs r2 j).1:=Qo okr2;refine⟨fun hlt=>?_,fun hge=>?_⟩
 ·have hjn:j<n:=by omega
  have hol:=Wf j (by omega);have hc8:∀ {g:qaA},g b8=some (.cells (ints .i64 (ord.map Int.ofNat)) 221)->Eng.zg g ⟨b8,(j:Int).toNat*1,none⟩=some (.int .i64 ((ord.getD j 0:Nat):Int)):=fun hg=>by
   simp only[Eng.zg,hg,vV,pY];simp[Eng.ints,-List.map_map,Tk (show j<19 by omega)]
  refine⟨by omega,by omega,_,hc8 h8j,?_⟩;refine(Fh hi G hx L okj HJ 3).mono ?_;rintro _ h3 ⟨rfl,H3,O3⟩;have h83:=(O3 b8 n81 n82).trans h8j;have hb3:=(O3 b nb1 nb2).trans hbj;refine⟨_,rfl,fun p hp=>?_,rfl,by omega,by omega,?_⟩
  ·obtain rfl:=uO.1 hp;simp only[Ex.ev,coerce,toInt_int,zj,vA,vB,y9];exact hc8 h83
  ·rw[vV];refine QY (i:=ord.getD j 0) hb3 hsb (by rw[IY];exact hol) ?_;rw[show IntKind.i64.wrap ((j:Int)+1)=((j+1:Nat):Int) by rw[i64_in _ (by omega)];omega];refine⟨⟨j+1,rfl,by omega,upd_same,(upd_ne hne8).trans h83,?_⟩,by simp only[vA,toInt_int,vV];omega⟩;refine H3.kept N (fun y hy hn=>upd_ne fun e=>hn (by rw[e];rfl)) fun y o hy=>?_
   rw[upd_ne (fun e=>by rw[e,nb4]at hy;cases hy)];exact H3.sb y o hy
 ·obtain rfl:j=n:=by omega
  have e2:sm bs r2 j=xn bs r0:=by unfold xn;rw[hr2,hn]
  rw[e2]at hbj HJ;have hsl:(xn bs r0).2.length=19:=by unfold xn;exact IY
  rw[<-zbq e3 e5];exact zc4 hi G hx L HJ hbj hsl (by omega) (by omega) _ _ _ _ _ _ _ _
theorem LS.U0(hi:qaC S h0)(G:Errs h0)(H:LS h0 h b1 b2 bm a c bs m T T1 T2 r){K:qaA->Prop}
  (hK:∀h',LS h0 h' b1 b2 bm a c bs m T T1 T2 (bd w r)->K h') :
  ((xM (kV (zG r.k))&&w)=true->∃x,zg h ⟨0,0,none⟩=some (Value.int .i64 x)/\yU S h ⟨b2,0,none⟩/\K (zJ h ⟨b2,0,none⟩ (.iface tCl (.agg (jf (.tuple (#[.int .i64 x]++jf (.tuple #[])))))))) /\
  ((xM (kV (zG r.k))&&w)=false->K h):=by
 rw[zc,zy];refine⟨fun hy=>?_,fun hn=>?_⟩
 ·simp only[uH,vO]at hy;have e:bd w r=⟨r.i,3⟩:=by unfold bd;rw[vP hy]
  have e3:(.iface tCl (.agg (jf (.tuple (#[.int .i64 3]++jf (.tuple #[]))))):Value)=zG (3:Int):=rfl;refine⟨3,(G.sub H.sb).e3,ED H.c2 (fun hs=>hi b2 hs H.n2),?_⟩;rw[e3,jZ H.c2];rw[e]at hK;exact hK _ (H.err (r':=⟨r.i,3⟩) (fun h=>by cases h))
 ·have e:bd w r=r:=by
   unfold bd;rw[vM (fun h=>by rw[pZ h.1,h.2]at hn;cases hn)]
  rw[e]at hK;exact hK _ H
theorem YZ(hi:qaC S h0)(G:Errs h0)(hx:zk h0 .u8 a bs)(L:bs.length<=1048576)(ok:okR bs r0)(H:LS h0 h b1 b2 bm a c bs m T T1 T2 (tk bs 5 (xV bs r0)).1)(e3:(tk bs 5 r0).2=(n3:Int))(e5:(tk bs 5 (xV bs r0)).2=(n5:Int))
  (e0 e4:Value) :
  ml2.wp oPP S yk (AN h0 bm a c bs m T (ym bs r0)) [e0,.pointer (some ⟨b1,0,none⟩),.pointer (some ⟨b2,0,none⟩),.int .i64 n3,e4,.int .i64 n5,zG (tk bs 5 (xV bs r0)).1.k] h []:=by
 have n2:=yl (bs:=bs) (n:=5) (r:=xV bs r0);have q5:(2:Int)^5=32:=by decide
 have w5:IntKind.i64.wrap ((n5:Int)+1)=(n5:Int)+1:=i64_in _ (by omega);simp only[ml2,Tr.wp,Ex.ev,coerce,toInt_int,za,zj,xu,zB,arith,Cst.val,zw,zr,ye,vA,vB,vC,vD,vE,vJ,vI,uI,uA,zp,w5];have:=LS.U0 hi G H (w:=decide ((n5:Int)+1>30)) (K:=fun h'=>ml3.wp oPP S yk (AN h0 bm a c bs m T (ym bs r0)) [e0,.pointer (some ⟨b1,0,none⟩),.pointer (some ⟨b2,0,none⟩),.int .i64 n3,e4,.int .i64 n5,zG (tk bs 5 (xV bs r0)).1.k] h' [])
  (fun h' H'=>by
   rw[<-e5]at H'
   exact zc5 hi G hx L ok H' e3 e5 _ _ _)
 rw[gA];refine⟨fun hy=>?_,fun hn _=>this.2 hn⟩;obtain⟨x,q1,q2,q3⟩:=this.1 hy;exact⟨x,q1,q2,fun _=>q3⟩
theorem zc6(hi:qaC S h0)(G:Errs h0)(hx:zk h0 .u8 a bs)(L:bs.length<=1048576)(ok:okR bs r0)(H:LS h0 h b1 b2 bm a c bs m T T1 T2 (tk bs 5 r0).1)(e3:(tk bs 5 r0).2=(n3:Int))(e0:Value) :
  ml1.wp oPP S yk (AN h0 bm a c bs m T (ym bs r0)) [e0,.pointer (some ⟨b1,0,none⟩),.pointer (some ⟨b2,0,none⟩),.int .i64 n3,zG (tk bs 5 r0).1.k] h []:=by
 obtain⟨ok0,ok1,ok2,ok3,ok4⟩:=J9 ok;have n1:=yl (bs:=bs) (n:=5) (r:=r0);have n2:=yl (bs:=bs) (n:=5) (r:=xV bs r0);have q5:(2:Int)^5=32:=by decide
 have w3:IntKind.i64.wrap ((n3:Int)+257)=(n3:Int)+257:=i64_in _ (by omega);obtain⟨n5,e5⟩:=vZ n2.1;simp only[ml1,Tr.wp,z8,Ex.ev,coerce,toInt_int,za,zj,xu,zB,arith,Cst.val,SV.den,zq,zK,zz,zm,zl,zw,zr,ye,vF,vG,vA,vB,vC,vD,vE,vJ,vI,vK,uI,uA,vY,vL,zp,w3];obtain⟨t1,t2⟩:=LS.U0 hi G H (w:=decide ((n3:Int)+257>286)) (K:=fun h'=>LS h0 h' b1 b2 bm a c bs m T T1 T2 (bd (decide ((n3:Int)+257>286)) (tk bs 5 r0).1)) (fun _ h=>h);have el:bd (decide ((n3:Int)+257>286)) (tk bs 5 r0).1=xV bs r0:=by rw[<-e3];rfl
 rw[el]at t1 t2;rw[gA];refine⟨fun hy=>?_,fun hn _=>?_⟩
 ·obtain⟨x,q1,q2,q3⟩:=t1 hy;refine⟨x,q1,q2,fun _=>?_⟩;refine(Fh hi G hx L ok0 q3 5).mono ?_;rintro _ h1 ⟨rfl,H1,O1⟩;refine⟨_,rfl,zG _,zc,jN H1.c2,?_⟩;rw[e5];exact YZ hi G hx L ok H1 e3 e5 _ _
 ·have q3:=t2 hn;refine(Fh hi G hx L ok0 q3 5).mono ?_;rintro _ h1 ⟨rfl,H1,O1⟩;refine⟨_,rfl,zG _,zc,jN H1.c2,?_⟩;rw[e5];exact YZ hi G hx L ok H1 e3 e5 _ _
theorem ZZ(hi:qaC S h0)(G:Errs h0)(hx:zk h0 .u8 a bs)(L:bs.length<=1048576)(p:Nat)(hp:p<=8*bs.length)(M:MAt h0 h bm a c bs p m T) :
  zb oPP S qQ #[.pointer (some ⟨bm,0,none⟩)] h (AN h0 bm a c bs m T (ym bs ⟨p,0⟩)):=by
 refine F6 (vs:=[.pointer (some ⟨bm,0,none⟩)]) ⟨rfl,trivial⟩ (hi.sub M.sb) ?_;simp only[B0,Tr.wp,z8,Ex.ev,coerce,toInt_int,zj,zN,Cst.val,SV.den,zq,zK,zz,zm,zl,yF,zw,zr,vF,vG,nJ,vA,vB,vD,vE,vJ,vI,vK,uI,uA,vY,vL,zp];intro b1 hb1 b2 hb2;have ok:okR bs ⟨(p:Int),0⟩:=fun _=>⟨by simp only;omega,by simp only;omega⟩
 have d12:b1≠b2:=fun e=>by rw[<-e,upd_same]at hb2;cases hb2
 have d1m:b1≠bm:=fun e=>by rw[e,M.hb]at hb1;cases hb1
 have hb2':h b2=none:=by rw[upd_ne (uW d12)]at hb2;exact hb2
 have d2m:b2≠bm:=fun e=>by rw[e,M.hb]at hb2';cases hb2'
 have H:LS h0 (upd (upd h b1 (.cells #[.pointer (some ⟨bm,0,none⟩)] 143)) b2 (.cells #[.nilIface] 61)) b1 b2 bm a c bs m T 143 61 ⟨(p:Int),0⟩:=
  ⟨(upd_ne d12).trans upd_same,upd_same,⟨p,hp,(upd_ne (uW d2m)).trans ((upd_ne (uW d1m)).trans M.hb),fun _=>rfl⟩,zU M.sb hb1,zU M.sb hb2',M.nb,d12,d1m,d2m,M.sb.trans ((Sub.zx hb1).trans (Sub.zx hb2))⟩
 have n1:=yl (bs:=bs) (n:=5) (r:=⟨(p:Int),0⟩);obtain⟨n3,e3⟩:=vZ n1.1;refine(Fh hi G hx L ok H 5).mono ?_;rintro _ h1 ⟨rfl,H1,O1⟩;refine⟨_,rfl,zG _,zc,jN H1.c2,?_⟩;rw[e3];exact zc6 hi G hx L ok H1 e3 _
end
end
end
end
end Go.Proofs.YtpodkihpnjhamaaGreatDoor
section
namespace Go.Proofs.YtpodkihpnjhamaaGreatDoor
open Go Go.Eng Go.ChangeShapes Go.WideShapes Go.ChangeAt Go.RowKit
theorem zdi:oPP.globalNamed "errors.errorType" = some 3:=by kernel_rfl
theorem zdj:(oPP.cutTypes.find? (·.1 == "internal/reflectlite.rtype")).map (·.2)=some tRt:=by kernel_rfl
theorem Yh:((List.range oPP.types.size).filter fun t=>oPP.rowNamed t [101,114,114,111,114])=[tEr]:=by kernel_rfl
theorem zdk:oPP.globalNamed "loop.example/s02972/impl.errShort" = some 4:=by kernel_rfl
theorem zdl:oPP.globalNamed "loop.example/s02972/impl.errBad" = some 0:=by kernel_rfl
theorem zdm:oPP.globalNamed "loop.example/s02972/impl.errLarge" = some 5:=by kernel_rfl
theorem zc7:(oPP.globals[(4:Nat)]?).map (·.type)=some tCl:=by kernel_rfl
theorem zc8:(oPP.globals[(0:Nat)]?).map (·.type)=some tCl:=by kernel_rfl
theorem zc9:(oPP.globals[(5:Nat)]?).map (·.type)=some tCl:=by kernel_rfl
variable {W:World}
theorem SE{hs:List (String×DataW Unit)}(h:handlesMet oPP (("errors.errorType",Rows.laid_errors_errorType)::hs) W):Ds (qj W):=by
 obtain⟨name,u,ty,e1,e2,e3,e4,e5⟩:=h _ gD;have en:name=[101,114,114,111,114]:=(pT e1).symm;subst en;obtain rfl:=pT (zdj.symm.trans e2);have hm:ty∈(List.range oPP.types.size).filter fun t=>oPP.rowNamed t [101,114,114,111,114]:=nZ.2 ⟨nU.2 e3,e4⟩
 rw[Yh]at hm;obtain rfl:=uO.1 hm;have hh:typeHandle oPP tEr=hdl tEr:=by kernel_rfl
 rw[hh]at e5;have:=World.var?_cell zdi e5 0;exact this
theorem zdn:oPP.cellsOf tCl=1:=by kernel_rfl
theorem zcA:oPP.cellsOf 2=1:=by kernel_rfl
theorem CR{n:String}{g:Nat}{k:Int}(hg:oPP.globalNamed n=some g)(ht:(oPP.globals[g]?).map (·.type)=some tCl){l:List (String×DataW Unit)}{ps:List MemPlace}
  (h:DataW.LaidVars oPP W ((n,.agg [.lit (.int .i64 k)])::l) ps):zg (qj W) ⟨g,0,none⟩=some (.int .i64 k)/\∃q,DataW.LaidVars oPP W l q:=by
 obtain⟨g',t,cs,fuel,p,q,h1,h2,h3,h4,h5,_⟩:=h;obtain rfl:=pT (hg.symm.trans h1);obtain rfl:=pT (ht.symm.trans h2);obtain⟨y0,m,hx,hl,hy⟩:=trod_struct1 Tryz.underlying106 h4;rw[zdn]at hl;obtain⟨cs⟩:=cs
 match cs,hl with
 | [c0],_=>
  have hy':DataW.trod (fun _=>()) oPP W 0 (fun _=>true) false m 2 [c0]=some y0:=by
   simpa[zcA]using hy
  obtain⟨z,e1,e2,_⟩:=DataW.trod_int Tryz.underlying2 hy';have e1:c0=.int .i64 z:=by simpa using e1
  subst e1;subst e2;simp only[uV,DataW.agg.injEq,uQ,DataW.lit.injEq,Lit.int.injEq,pL,uA]at hx;refine⟨?_,q,h5⟩;have:=World.var?_cell hg h3 0;rw[hx.1];exact this
noncomputable def Wk(os:Os):World:=
 let w0:=World.holding oPP os ⟨#[],#[],[]⟩
 let put (g:Nat) (v:Value) (hp:Array Obj):Array Obj:=hp.modify g fun
   | .cells _ t frozen=>.cells #[v] t frozen
   | o=>o
 { w0 with heap:=put 3 (rty tEr) (put 4 (.int .i64 2) (put 0 (.int .i64 3) (put 5 (.int .i64 6) w0.heap))) }
theorem Ja{H:Type}{enc:TypeId×Value->H}{P:Program}{w:World}{spare:Nat->Bool}:∀ {ns:List String} {gs:List (DataW H)} {ps:List MemPlace},DataW.TrodVars enc P w spare ns gs ps->gs.length=ns.length
 | [],[],_,_=>rfl
 | [],_::_,_,h=>h.elim
 | _::_,[],_,h=>h.elim
 | n::ns,d::ds,ps,h=>by
  obtain⟨g,t,cs,fuel,p,q,h1,h2,h3,h4,hs,e⟩:=h;rw[uB,uB,Ja hs]
end Go.Proofs.YtpodkihpnjhamaaGreatDoor
end
namespace Go.Proofs.YtpodkihpnjhamaaGreatDoor
open Go Go.Eng Go.IntWalk
section
variable {h:qaA}{v w:Value}{xs:List Int}{S:Shared}
section
abbrev tB:Ty Value (List Int):=zbb .u8
def jI(xs:List Int):Prop:=xs.length<=1048576
theorem U1(H:tB.R h v xs):∃a c,v=.slice a xs.length c:=by obtain⟨a,c,rfl,_⟩:=H;exact⟨a,c,rfl⟩
end
variable {x:Int}{b c i n:Nat}{bs out:List Int}{a:Option Addr}{h0 h1:qaA}{T:TypeId}
section
def bitsOf(x:Int)(n:Nat):List Int:=(List.range n).map fun i=>x/2^i%2
theorem xC:(bitsOf x n).length=n:=by simp[bitsOf]
theorem K7:bitsOf x (n+1)=bitsOf x n++[x/2^n%2]:=by simp[bitsOf,mD]
theorem Jb:∀b∈bitsOf x n,0<=b/\b<=1:=fun b hb=>by
 simp only[bitsOf,pX]at hb;obtain⟨i,_,rfl⟩:=hb;omega
def qX(out:List Int)(n:Nat)(b:Int):List Int:=
 (if n%8=0 then out++[0]else out).set (n/8) ((if n%8=0 then out++[0]else out).getD (n/8) 0+b*2^(n%8))
def pk(bs:List Int):Nat->List Int
 | 0=>[]
 | k+1=>qX (pk bs k) k (bs.getD k 0)
theorem Wl{b:Int}(h:out.length=(n+7)/8):(qX out n b).length=(n+1+7)/8:=by
 unfold qX;rw[uR];split
 ·rw[vR,h,uD];omega
 ·omega
theorem Ah:∀ {k:Nat},(pk bs k).length=(k+7)/8
 | 0=>rfl
 | k+1=>Wl Ah
theorem Wm{bs cs:List Int}:∀ {k:Nat},k<=bs.length->pk (bs++cs) k=pk bs k
 | 0,_=>rfl
 | k+1,h=>by
  rw[pk,pk,Wm (by omega)];congr 1;rw[uK,uK,uC (by omega)]
def xK(out:List Int)(n:Nat):Int:=(if n%8=0 then out++[0]else out).getD (n/8) 0
theorem Wn(h:out.length=(n+7)/8)(h0:n%8=0):xK out n=0:=by
 unfold xK;rw[vP h0,uK,uM (by omega),show n/8-out.length=0 by omega];rfl
theorem EF{bs:List Int}(hb:∀b∈bs,0<=b/\b<=1):∀ {k:Nat},0<=xK (pk bs k) k/\xK (pk bs k) k<2^(k%8)
 | 0=>by simp[xK,pk]
 | k+1=>by
  by_cases h0:(k+1)%8=0
  ·rw[Wn Ah h0,h0];decide
  ·have ih:=EF hb (k:=k);have e8:(k+1)/8=k/8:=by omega
   have em:(k+1)%8=k%8+1:=by omega
   have hbit:0<=bs.getD k 0/\bs.getD k 0<=1:=by
    rw[uK];cases hg:bs[k]? with
    | none=>simp
    | some x=>exact hb x (mP hg)
   have hlen:k/8<(if k%8=0 then pk bs k++[0]else pk bs k).length:=by
    have:=Ah (bs:=bs) (k:=k);split
    ·rw[vR,this,uD];omega
    ·omega
   have hp:xK (pk bs (k+1)) (k+1)=xK (pk bs k) k+bs.getD k 0*2^(k%8):=by
    unfold xK;rw[vM h0,e8,pk];unfold qX;rw[uK,nC hlen];rfl
   rw[hp,em,show(2:Int)^(k%8+1)=2*2^(k%8) by rw[mA];omega];have hpp:(0:Int)<2^(k%8):=nG (by decide);rcases(show bs.getD k 0=0\/bs.getD k 0=1 by omega)with h | h <;> rw[h] <;> omega
theorem zbr:(2:Int)^(n%8)<=128:=by
 have:n%8<=7:=by omega
 have h:=J5 this;have e:(2:Int)^7=128:=by decide
 omega
theorem zcB{v:Int}(b:Int)(h0:0<=v)(h1:v<2^i)(hb:0<=b/\b<=1)(hi:i<8):Go.bits .or .u8 v (b*2^i)=v+b*2^i:=by
 obtain⟨n,rfl⟩:=vZ h0;obtain⟨m,rfl⟩:=vZ hb.1;rw[yG]at h1 ⊢;have hn:n<2^i:=by exact_mod_cast h1
 have hm:m<=1:=by omega
 have hp:2^i<=2^7:=uX (by decide) (by omega);have e7:2^7=128:=by decide
 have hle:m*2^i<=2^i:=by have:=Nat.mul_le_mul_right (2^i) hm;omega
 have e:((m:Int)*((2^i:Nat):Int))=((m*2^i:Nat):Int):=by push_cast;rfl
 have h1':(BitVec.ofInt 8 (n:Int)).toNat=n:=by rw[nH,nT];exact pV (by omega)
 have h2':(BitVec.ofInt 8 ((m*2^i:Nat):Int)).toNat=m*2^i:=by rw[nH,nT];exact pV (by omega)
 have e2:=gG hn m;rw[e];show IntKind.u8.wrap ((BitVec.ofInt 8 (n:Int) ||| BitVec.ofInt 8 ((m*2^i:Nat):Int)).toNat:Int)=_;rw[BitVec.toNat_or,h1',h2',Nat.or_comm,Nat.mul_comm m,<-e2,u8_in _ (by rw[Nat.mul_comm];omega)]
 push_cast
 omega
def yB:List Int:=(List.range 288).map fun s=>if s<144 then 8 else if s<256 then 9 else if s<280 then 7 else 8
theorem kv:yB.length=288:=by simp[yB]
theorem Rj{s:Nat}(h:s<288):yB[s]? = some (if s<144 then 8 else if s<256 then 9 else if s<280 then 7 else 8):=by simp[yB,h]
theorem Wo:zu yB=1:=by decide +kernel
theorem Ai:¬(zu yB=0\/zu yB=2):=by rw[Wo];decide
theorem DF:yH yB=yM yB:=by unfold yH;rw[vM Ai]
theorem Hc:IV yB:=by show yB.length<=1048576;rw[kv];omega
def xq(c:Nat):List Int:=bitsOf ((yM yB).getD c (0,0)).2 ((yM yB).getD c (0,0)).1.toNat
def x7(xs:List Int):List Int:=([1,1,0]++xs.flatMap fun c=>xq c.toNat)++xq 256
def zC(xs:List Int):List Int:=if xs.length>100000 then []else pk (x7 xs) (x7 xs).length
theorem Ar(h:c<288:=by omega):∃l b:Nat,(yM yB)[c]? = some ((l:Int),(b:Int))/\l<=15/\b<2^l/\xq c=bitsOf b l:=by
 have hok:=(jH Ai).2;have hg:=wF (xs:=yB) (j:=c) (by rw[kv];exact h);obtain⟨l,b,e,_,h1,h2⟩:=ku hok hg;rw[e]at hg;refine⟨l,b,hg,h1,h2,?_⟩;unfold xq;have e2:(yM yB).getD c (0,0)=((l:Int),(b:Int)):=by rw[uK,hg];rfl
 rw[e2,vV]
theorem Lj:∀b∈xq c,0<=b/\b<=1:=Jb
theorem Fi(h:c<288:=by omega):(xq c).length<=15:=by
 obtain⟨l,b,_,h1,_,e⟩:=Ar h;rw[e,xC];exact h1
theorem Rl(hw:∀x∈xs,0<=x/\x<=255):(xs.flatMap fun c=>xq c.toNat).length<=15*xs.length:=by
 induction xs with
 | nil=>simp
 | cons x r ih=>
  have h1:=hw x (gD ..);have h2:=Fi (c:=x.toNat);have h3:=ih fun y hy=>hw y (lF _ hy)
  rw[vF,vR,uB];omega
theorem JA:∀b∈x7 xs,0<=b/\b<=1:=fun b hb=>by
 unfold x7 at hb;rcases pO.1 hb with h | h
 ·rcases pO.1 h with h | h
  ·simp at h;omega
  ·obtain⟨c,_,hc⟩:=List.mem_flatMap.1 h;exact Lj b hc
 ·exact Lj b h
theorem Ll{k:IntKind}{l c:Nat}(H:Part k h (.slice a l c) xs)(hs:∀b,zf (.slice a l c)=some b->¬S b)(hi:i<xs.length)(x:Int) :
  yU S h (((a.getD default).add (i*1)).add 0)/\Part k (zJ h (((a.getD default).add (i*1)).add 0) (.int k x)) (.slice a l c) (xs.set i x)/\∀w,zf (.slice a l c)≠some w->zJ h (((a.getD default).add (i*1)).add 0) (.int k x) w=h w:=by
 rcases H with⟨_,rfl⟩ | ⟨b,pr,sp,re,T,e,hb⟩
 ·simp at hi
 ·cases e
  have hsb:=hs b rfl;have e1:(((some (⟨b,pr.length,none⟩:Addr)).getD default).add (i*1)).add 0=(⟨b,pr.length+i,none⟩:Addr):=by
   rw[add_add,pE,zp];simp
  have hsz:pr.length+i<(ints k (pr++xs++sp++re)).size:=by rw[VE];simp;omega
  rw[e1,kM hb,ints_set];have e2:(pr++xs++sp++re).set (pr.length+i) x=pr++xs.set i x++sp++re:=by
   rw[vX,vX,lR _ _ (by omega),nK,gQ _ _ hi];simp[vX]
  rw[e2];exact⟨⟨⟨(ints k (pr++xs++sp++re))[pr.length+i],by simp[zg,hb]⟩,by simp[y8,hb],hsb⟩,.inr ⟨b,pr,sp,re,T,by simp,upd_same⟩,fun w hw=>upd_ne fun e=>hw (by rw[e];rfl)⟩
theorem Tn(hi:qaC S h0)(hs:qaB h0 h)(P:Part .u8 h (.slice a bs.length c) bs)(N:qaD h0 (.slice a bs.length c))(x n:Nat)(hx:x<=32768)(hn:n<=15)(hl:bs.length<=3000000) :
  zb oPP S Bu #[.slice a bs.length c,.int .u64 x,.int .i64 n] h (fun v h'=>Part .u8 h' v (bs++bitsOf x n)/\qaD h0 v/\qaB h0 h'):=by
 refine NQ (vs:=[.slice a bs.length c,.int .u64 x,.int .i64 n]) ⟨rfl,rfl,rfl,trivial⟩ (hi.sub hs) ?_;simp only[IE,Tr.wp,Ex.ev,coerce,toInt_int,za,zd,zi,ze,zB,arith,Cst.val,SV.den,zY,vA,vB,vC,vO,vU,vD,vE,vJ,vI];refine⟨fun us h'=>∃(i:Nat) (a:Option Addr) (c:Nat),us=[.slice a (bs.length+i) c,.int .u64 ((x:Int)/2^i),.int .i64 i]/\i<=n/\Part .u8 h' (.slice a (bs.length+i) c) (bs++bitsOf x i)/\qaD h0 (.slice a (bs.length+i) c)/\qaB h0 h',fun us _=>n-(toInt (us.getD 2 undef)).toNat,⟨0,a,c,by simp,by omega,by simpa[bitsOf]using P,by simpa using N,hs⟩,?_⟩;rintro a1 l1 c1 y z h' ⟨i,a2,c2,hx1,hi2,P2,N2,s2⟩;simp only[uQ,uT,pA,pL,uA]at hx1;obtain⟨⟨rfl,rfl,rfl⟩,rfl,rfl⟩:=hx1;refine⟨fun hlt=>?_,fun hge=>?_⟩
 ·intro b hb;have hp:(0:Int)<2^i:=nG (by decide);have hx0:0<=(x:Int)/2^i:=fQ (by omega) (mB hp);have hxl:(x:Int)/2^i<=x:=Int.ediv_le_self _ (by omega);have wb:IntKind.u8.wrap (((x:Int)/2^i).tmod 2)=(x:Int)/2^i%2:=by rw[uG hx0];exact u8_in _ (by omega)
  have wd:IntKind.u64.wrap (((x:Int)/2^i).tdiv 2)=(x:Int)/2^(i+1):=by rw[u64_quo _ _ ⟨hx0,by omega,by omega⟩,IW]
  have w2:IntKind.i64.wrap ((i:Int)+1)=((i+1:Nat):Int):=z9;rw[wb,wd,w2];have s3:qaB h' (upd h' b (.cells (ints .u8 [(x:Int)/2^i%2]) 5)):=Sub.zx hb;have hlen:(bs++bitsOf x i).length=bs.length+i:=by rw[vR,xC]
  refine zI hi (s2.trans s3) (P2.sub s3) N2 (ys:=[(x:Int)/2^i%2]) zk.new (by rw[hlen];simp only[uD];omega) fun v' h3 o n3 s4 _ _=>?_
  obtain⟨a4,c4,rfl,_,_⟩:=o.ints;have e:bs++bitsOf x i++[(x:Int)/2^i%2]=bs++bitsOf x (i+1):=by rw[K7,vX]
  have hlen2:(bs++bitsOf x (i+1)).length=bs.length+(i+1):=by rw[vR,xC]
  rw[e,hlen2]at o n3;simp only[ze,zd,zi,e,hlen2];refine⟨⟨i+1,a4,c4,rfl,by omega,o,n3,s4⟩,?_⟩;show n-(toInt (Value.int .i64 ((i+1:Nat):Int))).toNat<n-(toInt (Value.int .i64 (i:Int))).toNat;rw[toInt_int,toInt_int];omega
 ·obtain rfl:i=n:=by omega
  exact⟨P2,N2,s2⟩
theorem Hd(hi:qaC S h0){h2:qaA}{out o2:List Int}(ho2:o2=(if n%8=0 then out++[0]else out))(hlen:n/8<o2.length)(P:Part .u8 h2 (.slice a o2.length c) o2)(N:qaD h0 (.slice a o2.length c))(s:qaB h0 h2)(b:Int) :
  yU S h2 (((a.getD default).add (n/8*1)).add 0)/\Part .u8 (zJ h2 (((a.getD default).add (n/8*1)).add 0) (.int .u8 (xK out n+b*2^(n%8)))) (.slice a o2.length c) (qX out n b)/\qaB h0 (zJ h2 (((a.getD default).add (n/8*1)).add 0) (.int .u8 (xK out n+b*2^(n%8)))) /\
   ∀w,zf (.slice a o2.length c)≠some w->zJ h2 (((a.getD default).add (n/8*1)).add 0) (.int .u8 (xK out n+b*2^(n%8))) w=h2 w:=by
 obtain⟨g1,g2,g3⟩:=Ll P (fun b hb hs=>hi b hs (N b hb)) hlen (xK out n+b*2^(n%8));refine⟨g1,?_,fun w o hw=>?_,g3⟩
 ·have e:qX out n b=o2.set (n/8) (xK out n+b*2^(n%8)):=by unfold qX xK;rw[<-ho2]
  rw[e];exact g2
 ·by_cases hb:zf (.slice a o2.length c)=some w
  ·rw[N w hb]at hw;cases hw
  ·rw[g3 w hb];exact s w o hw
theorem Wp(hi:qaC S h)(hx:zk h .u8 a bs)(hw:∀b∈bs,0<=b/\b<=1)(hl:bs.length<=3000000) :
  zb oPP S Cg #[.slice a bs.length c] h (fun v h'=>tB.O h' v (pk bs bs.length)/\tB.New h v/\qaB h h'):=by
 refine KZ (vs:=[.slice a bs.length c]) ⟨rfl,trivial⟩ hi ?_;simp only[Gc,Tr.wp,Ex.ev,coerce,toInt_int,za,zd,zi,ze,zj,yg,zB,arith,Cst.val,SV.den,zw,zY,zr,ye,vA,vB,vC,vT,vO,vU,vD,vE,vJ,vI,uA];intro b0 hb0;have s0:qaB h (upd h b0 (.cells (ints .u8 []) 5)):=Sub.zx hb0;refine⟨fun us h'=>∃(i:Nat) (a:Option Addr) (c:Nat),us=[.slice a (pk bs i).length c,.int .i64 i]/\i<=bs.length/\Part .u8 h' (.slice a (pk bs i).length c) (pk bs i)/\qaD h (.slice a (pk bs i).length c)/\qaB h h',fun us _=>bs.length-(toInt (us.getD 1 undef)).toNat,⟨0,_,_,rfl,by omega,(Own.made []).part,New.of hb0,s0⟩,?_⟩;rintro a1 l1 c1 z h' ⟨i,a2,c2,hx1,hi2,P2,N2,s2⟩;simp only[uQ,uT,pA,pL,uA]at hx1;obtain⟨⟨rfl,rfl,rfl⟩,rfl⟩:=hx1;refine⟨fun hlt=>?_,fun hge=>?_⟩
 ·have hi3:i<bs.length:=by omega
  have hw1:=hw _ (pQ hi3);have w1:(i:Int).tmod 8=((i%8:Nat):Int):=by rw[uG (by omega)];omega
  have w2:IntKind.i64.wrap ((i:Int).tdiv 8)=((i/8:Nat):Int):=by rw[uL (by omega)];exact i64_in _ (by omega)
  have w3:IntKind.u64.wrap ((i%8:Nat):Int)=((i%8:Nat):Int):=u64_in _ (by omega);have w4:IntKind.i64.wrap ((i:Int)+1)=((i+1:Nat):Int):=z9;have hgd:bs.getD i 0=bs[i]:=by simp[List.getD,vQ hi3]
  have hb:=EF hw (k:=i);have hp7:=zbr (n:=i);have hpp:(0:Int)<2^(i%8):=nG (by decide);have hmul:0<=bs[i]*2^(i%8)/\bs[i]*2^(i%8)<=2^(i%8):=by
   rcases(show bs[i]=0\/bs[i]=1 by omega)with h | h <;> rw[h] <;> omega
  have fin:∀ {h2:qaA} {a:Option Addr} {c:Nat} {o2:List Int},o2=(if i%8=0 then pk bs i++[0]else pk bs i)->Part .u8 h2 (.slice a o2.length c) o2->qaD h (.slice a o2.length c)->qaB h h2 ->
    ((!a.isNone)=true/\0<=((i/8:Nat):Int)/\((i/8:Nat):Int)<(o2.length:Int)/\∃x,zg h2 (((a.getD default).add (((i/8:Nat):Int).toNat*1)).add 0)=some (.int .u8 x)/\x=xK (pk bs i) i)/\i/8<o2.length:=by
   intro h2 a c o2 ho2 P N s;have hlen:i/8<o2.length:=by
    have:=Ah (bs:=bs) (k:=i);rw[ho2];split
    ·rw[vR,this,uD];omega
    ·omega
   obtain⟨a',c',e,_,hxx⟩:=P.ints;simp only[pA]at e;obtain⟨rfl,_,rfl⟩:=e;obtain⟨g1,g2⟩:=hxx.cell (vQ hlen);refine⟨⟨by simpa using g2,by omega,by omega,o2[i/8],by simp only[vV,pY,add_add,uI];exact g1,?_⟩,hlen⟩;unfold xK;rw[<-ho2,uK,vQ hlen];rfl
  rw[w1,w2,w3,w4];have g2:=(hx.cell (vQ hi3)).2;have wr:IntKind.u8.wrap (xK (pk bs i) i+IntKind.u8.wrap (bs[i]*2^min ((i%8:Nat):Int).toNat IntKind.u8.bits))=xK (pk bs i) i+(bs.getD i 0)*2^(i%8):=by
   rw[vV,show min (i%8) IntKind.u8.bits=i%8 by(show min (i%8) 8=i%8);omega,u8_in (bs[i]*2^(i%8)) (by omega),u8_in _ (by omega),hgd]
  have hpl:=Ah (bs:=bs) (k:=i);have hl1:∀o2:List Int,o2=(if i%8=0 then pk bs i++[0]else pk bs i)->(pk bs (i+1)).length=o2.length:=fun o2 e=>by
   rw[pk,qX,uR,<-e]
  refine⟨fun h0 b2 hb2=>?_,fun h0=>?_⟩
  ·have h0:i%8=0:=by simp at h0;omega
   have s3:qaB h' (upd h' b2 (.cells (ints .u8 [0]) 5)):=Sub.zx hb2;refine zI hi (s2.trans s3) (P2.sub s3) N2 (ys:=[0]) zk.new (by rw[hpl];simp only[uD];omega) fun v' h3 P3 N3 s4 _ _=>?_
   obtain⟨a4,c4,rfl,_,_⟩:=P3.ints;simp only[ze,zd,zi];obtain⟨⟨q1,q2,q3,x,q4,rfl⟩,q5⟩:=fin (o2:=(pk bs i++[0])) (by rw[vP h0]) P3 N3 s4;obtain⟨b1,b2,b3,_⟩:=Hd hi (out:=pk bs i) (by rw[vP h0]) q5 P3 N3 s4 (bs.getD i 0);intro _;refine⟨q1,q2,q3,_,q4,by simpa using g2,by omega,hlt,bs[i],?_,by omega,q1,q2,q3,b1,?_,?_⟩
   ·simp only[vV,pY,add_add,uI];exact xJ s4 (hx.cell (vQ hi3)).1
   ·rw[wr];refine⟨i+1,_,_,by rw[hl1 (pk bs i++[0]) (by rw[vP h0])],by omega,?_,?_,b3⟩
    ·rw[hl1 (pk bs i++[0]) (by rw[vP h0])];exact b2
    ·rw[hl1 (pk bs i++[0]) (by rw[vP h0])];exact N3
   ·show bs.length-(toInt (Value.int .i64 ((i+1:Nat):Int))).toNat<bs.length-(toInt (Value.int .i64 (i:Int))).toNat;rw[toInt_int,toInt_int];omega
  ·have h0:¬i%8=0:=by simp at h0;omega
   obtain⟨⟨q1,q2,q3,x,q4,rfl⟩,q5⟩:=fin (o2:=(pk bs i)) (by rw[vM h0]) P2 N2 s2;obtain⟨b1,b2,b3,_⟩:=Hd hi (out:=pk bs i) (by rw[vM h0]) q5 P2 N2 s2 (bs.getD i 0);intro _;refine⟨q1,q2,q3,_,q4,by simpa using g2,by omega,hlt,bs[i],?_,by omega,q1,q2,q3,b1,?_,?_⟩
   ·simp only[vV,pY,add_add,uI];exact xJ s2 (hx.cell (vQ hi3)).1
   ·rw[wr];refine⟨i+1,_,_,by rw[hl1 (pk bs i) (by rw[vM h0])],by omega,?_,?_,b3⟩
    ·rw[hl1 (pk bs i) (by rw[vM h0])];exact b2
    ·rw[hl1 (pk bs i) (by rw[vM h0])];exact N2
   ·show bs.length-(toInt (Value.int .i64 ((i+1:Nat):Int))).toNat<bs.length-(toInt (Value.int .i64 (i:Int))).toNat;rw[toInt_int,toInt_int];omega
 ·obtain rfl:i=bs.length:=by omega
  exact⟨P2,N2,s2⟩
theorem Pj(h:i<288):yB.take (i+1)=yB.take i++[if i<144 then 8 else if i<256 then 9 else if i<280 then 7 else 8]:=by
 rw[mU,Rj h];rfl
theorem CS(h:i<=288:=by omega):(yB.take i).length=i:=by rw[pW,kv];omega
theorem Rm:yB.take 288=yB:=by rw[lK (by rw[kv];omega)]
theorem Pk(hi:qaC S h) :
  zb oPP S Ap #[] h (fun v h'=>∃a1 c1 a2 c2,v=.tuple #[.slice a1 288 c1,.slice a2 32 c2]/\Part .i64 h' (.slice a1 288 c1) yB/\Part .i64 h' (.slice a2 32 c2) (List.replicate 32 5)/\qaD h (.slice a1 288 c1)/\qaD h (.slice a2 32 c2)/\qaB h h'):=by
 refine KY (vs:=[]) trivial hi ?_;simp only[Ga,Tr.wp,Ex.ev,coerce,toInt_int,za,zd,zi,ze,xu,kp,zB,arith,Cst.val,SV.den,zY,vA,vB,vC,vT,vO,vU,vD,vE,vJ,vI,vY,vL];intro b1 hb1 b2 hb2;have s1:qaB h (upd h b1 (.cells (ints .i64 []) 2)):=Sub.zx hb1;have s2:qaB h (upd (upd h b1 (.cells (ints .i64 []) 2)) b2 (.cells (ints .i64 []) 2)):=s1.trans (Sub.zx hb2);have hb2':h b2=none:=by
  cases hh:h b2 with
  | none=>rfl
  | some o=>have h3:(some o:Option Obj)=none:=(s1 _ _ hh).symm.trans hb2;cases h3
 have hne:b1≠b2:=fun e=>by rw[<-e]at hb2;simp[upd]at hb2
 refine⟨fun us h'=>∃(i:Nat) (a:Option Addr) (c:Nat),us=[.slice a i c,.int .i64 i]/\i<=288/\Part .i64 h' (.slice a i c) (yB.take i)/\qaD h (.slice a i c)/\zf (.slice a i c)≠some b2/\h' b2=some (.cells (ints .i64 []) 2)/\qaB h h',fun us _=>288-(toInt (us.getD 1 undef)).toNat,⟨0,_,_,rfl,by omega,((Own.made (k:=.i64) (T:=2) []).keep (fun b hb=>by cases hb;exact upd_ne hne)).part,New.of hb1,(fun e=>by cases e;exact hne rfl),upd_same,s2⟩,?_⟩;rintro a1 l1 c1 z h' ⟨i,a1',c1',hx1,hi2,P,N,hn2,h2,s⟩;obtain⟨⟨rfl,rfl,rfl⟩,rfl⟩:(a1=a1'/\l1=i/\c1=c1')/\z=i:=by simpa using hx1
 refine⟨fun hlt=>?_,fun hge=>?_⟩
 ·intro b hb;have hi3:l1<288:=by omega
  have hv:(if(decide ((l1:Int)>=256)&&decide ((l1:Int)<280))=true then(7:Int)else if(decide ((l1:Int)>=144)&&decide ((l1:Int)<256))=true then 9 else 8)=(if l1<144 then 8 else if l1<256 then 9 else if l1<280 then 7 else 8):=by
   simp only[uH,vO]
   repeat' split
   all_goals omega
  rw[hv];have w4:IntKind.i64.wrap ((l1:Int)+1)=((l1+1:Nat):Int):=z9;have s3:qaB h' (upd h' b (.cells (ints .i64 [if l1<144 then 8 else if l1<256 then 9 else if l1<280 then 7 else 8]) 2)):=Sub.zx hb;have hlen:=CS hi2;refine zI hi (s.trans s3) (P.sub s3) N (ys:=[if l1<144 then 8 else if l1<256 then 9 else if l1<280 then 7 else 8]) zk.new (by rw[hlen];simp only[uD];omega) fun v' h3 P3 N3 s4 k3 b3=>?_
  rw[<-Pj hi3]at P3;obtain⟨a4,c4,rfl,_,_⟩:=P3.ints;rw[CS]at P3 N3 b3 ⊢;simp only[ze,zd,zi,w4];have hu:upd h' b (.cells (ints .i64 [if l1<144 then 8 else if l1<256 then 9 else if l1<280 then 7 else 8]) 2) b2=some (.cells (ints .i64 []) 2):=s3 _ _ h2;refine⟨⟨l1+1,_,_,rfl,by omega,P3,N3,?_,?_,s4⟩,?_⟩
  ·rcases b3 with b3 | b3
   ·rw[b3];exact hn2
   ·intro e;have e3:=b3 _ e;have e4:(some (Obj.cells (ints .i64 []) 2):Option Obj)=none:=hu.symm.trans e3;cases e4
  ·refine(k3 b2 (fun e=>?_) hn2).trans hu;have e4:(some (Obj.cells (ints .i64 []) 2):Option Obj)=none:=hu.symm.trans e;cases e4
  ·show 288-(toInt (Value.int .i64 ((l1+1:Nat):Int))).toNat<288-(toInt (Value.int .i64 (l1:Int))).toNat;rw[toInt_int,toInt_int];omega
 ·obtain rfl:l1=288:=by omega
  rw[Rm]at P;have N2:qaD h (.slice (some ⟨b2,0,none⟩) 0 0):=New.of hb2';have e2:Part .i64 h' (.slice (some ⟨b2,0,none⟩) 0 0) []:=Own.part ⟨b2,[],_,rfl,h2⟩;refine⟨fun us h'=>∃(i:Nat) (a:Option Addr) (c:Nat),us=[.slice a i c,.int .i64 i]/\i<=32/\Part .i64 h' (.slice a i c) (List.replicate i 5)/\qaD h (.slice a i c)/\(∀z,zf (.slice a i c)=some z->zf (.slice a1 288 c1)≠some z)/\Part .i64 h' (.slice a1 288 c1) yB/\qaB h h',fun us _=>32-(toInt (us.getD 1 undef)).toNat,⟨0,_,_,rfl,by omega,e2,N2,fun z hz e=>hn2 (by rw[e,<-hz];rfl),P,s⟩,?_⟩;rintro a5 l5 c5 z h' ⟨i,a5',c5',hx1,hi2,P5,N5,hn5,P,s⟩;obtain⟨⟨rfl,rfl,rfl⟩,rfl⟩:(a5=a5'/\l5=i/\c5=c5')/\z=i:=by simpa using hx1
  refine⟨fun hlt=>?_,fun hge=>?_⟩
  ·intro b hb;have w4:IntKind.i64.wrap ((l5:Int)+1)=((l5+1:Nat):Int):=z9;have s3:qaB h' (upd h' b (.cells (ints .i64 [5]) 2)):=Sub.zx hb;have P1:=P.sub s3;refine zI hi (s.trans s3) (P5.sub s3) N5 (ys:=[5]) zk.new (by rw[pI];simp only[uD];omega) fun v' h3 P3 N3 s4 k3 b3=>?_
   have er:List.replicate l5 (5:Int)++[5]=List.replicate (l5+1) 5:=by rw[gS]
   rw[er]at P3;obtain⟨a4,c4,rfl,_,_⟩:=P3.ints;rw[pI]at P3 N3 b3 ⊢;simp only[ze,zd,zi,w4];have hk:∀z,zf (.slice a1 288 c1)=some z->h3 z=upd h' b (.cells (ints .i64 [5]) 2) z:=fun z hz=>k3 z (P1.held z hz) fun e=>hn5 z e hz
   refine⟨⟨l5+1,_,_,rfl,by omega,P3,N3,?_,P1.keep hk,s4⟩,?_⟩
   ·intro z hz e;rcases b3 with b3 | b3
    ·rw[b3]at hz;exact hn5 z hz e
    ·exact P1.held z e (b3 z hz)
   ·show 32-(toInt (Value.int .i64 ((l5+1:Nat):Int))).toNat<32-(toInt (Value.int .i64 (l5:Int))).toNat;rw[toInt_int,toInt_int];omega
  ·obtain rfl:l5=32:=by omega
   exact⟨_,_,_,_,rfl,P,P5,N,N5,s⟩
def hub(i:Nat):List Int:=yB.take i++List.replicate (288-i) 0
theorem zaa(h:i<=288):(hub i).length=288:=by unfold hub;rw[vR,CS h,pI];omega
theorem zab(h:i<288):(hub i).set i (if i<144 then 8 else if i<256 then 9 else if i<280 then 7 else 8)=hub (i+1):=by
 unfold hub;rw[lR _ _ (by rw[CS];omega),CS,mS,show 288-i=(288-(i+1))+1 by omega,List.replicate_succ,List.set_cons_zero,Pj h,vX];rfl
theorem zac:hub 288=yB:=by unfold hub;rw[Rm];simp
theorem Yi:hub 0=List.replicate 288 0:=by unfold hub;rw[List.take_zero,vI]
def Yj:Tr:=match qR with | .join _ _ t=>t | t=>t
theorem zad : qR = .join [.slice, .slice, .slice, .slice]
 (.both
  (.mks 2 1 8 [(.int .i64 0)] (.cst (.int .i64 288)) (.cst (.int .i64 288))
  (.mks 2 1 8 [(.int .i64 0)] (.cst (.int .i64 32)) (.cst (.int .i64 32))
  (.cont 0 [(.var (.slice) 0), (.var (.slice) 1), (.var (.slice) 0), (.var (.slice) 1)])))
  (.mks 2 1 8 [(.int .i64 0)] (.cst (.int .i64 32)) (.cst (.int .i64 32))
  (.mks 2 1 8 [(.int .i64 0)] (.cst (.int .i64 288)) (.cst (.int .i64 288))
  (.cont 0 [(.var (.slice) 1), (.var (.slice) 0), (.var (.slice) 1), (.var (.slice) 0)])))) Yj := rfl
theorem Wq(hi:qaC S h){a1 a2:Option Addr}{c1 c2:Nat}(P1:Part .i64 h1 (.slice a1 288 c1) (List.replicate 288 0))(P2:Part .i64 h1 (.slice a2 32 c2) (List.replicate 32 0))(N1:qaD h (.slice a1 288 c1))(N2:qaD h (.slice a2 32 c2))(hn:∀z,zf (.slice a2 32 c2)=some z->zf (.slice a1 288 c1)≠some z)(s:qaB h h1) :
  Yj.wp oPP S yk (fun v h'=>∃a1 c1 a2 c2,v=.tuple #[.slice a1 288 c1,.slice a2 32 c2]/\Part .i64 h' (.slice a1 288 c1) yB/\Part .i64 h' (.slice a2 32 c2) (List.replicate 32 5)/\qaD h (.slice a1 288 c1)/\qaD h (.slice a2 32 c2)/\qaB h h') [.slice a1 288 c1,.slice a2 32 c2,.slice a1 288 c1,.slice a2 32 c2] h1 []:=by
 simp only[Yj,qR,Tr.wp,Ex.ev,coerce,toInt_int,za,zd,zi,ze,zj,yg,j7,zB,arith,Cst.val,SV.den,zY,ye,vA,vB,vC,vT,vO,vU,vD,vE,vJ,vI,vY,vL];have ns1:∀b,zf (.slice a1 288 c1)=some b->¬S b:=fun z hz hs=>hi z hs (N1 z hz)
 have ns2:∀b,zf (.slice a2 32 c2)=some b->¬S b:=fun z hz hs=>hi z hs (N2 z hz)
 refine⟨fun us h'=>∃i:Nat,us=[.int .i64 i]/\i<=288/\Part .i64 h' (.slice a1 288 c1) (hub i)/\Part .i64 h' (.slice a2 32 c2) (List.replicate 32 0)/\qaB h h',fun us _=>288-(toInt (us.getD 0 undef)).toNat,⟨0,rfl,by omega,by rw[Yi];exact P1,P2,s⟩,?_⟩;rintro x h' ⟨i,hx,hi2,P1,P2,s⟩;obtain rfl:x=i:=by simpa using hx
 refine⟨fun hlt=>?_,fun hge=>?_⟩
 ·have hi3:i<288:=by omega
  have w4:IntKind.i64.wrap ((i:Int)+1)=((i+1:Nat):Int):=z9;have hl:=zaa hi2;have step:∀v:Int,v=(if i<144 then 8 else if i<256 then 9 else if i<280 then 7 else 8) ->
    ((!a1.isNone)=true/\0<=(i:Int)/\(i:Int)<((288:Nat):Int)/\yU S h' (((a1.getD default).add ((i:Int).toNat*1)).add 0)) /\
    ∃i2:Nat,[Value.int .i64 ((i+1:Nat):Int)]=[.int .i64 i2]/\i2<=288/\Part .i64 (zJ h' (((a1.getD default).add ((i:Int).toNat*1)).add 0) (.int .i64 v)) (.slice a1 288 c1) (hub i2)/\Part .i64 (zJ h' (((a1.getD default).add ((i:Int).toNat*1)).add 0) (.int .i64 v)) (.slice a2 32 c2) (List.replicate 32 0)/\qaB h (zJ h' (((a1.getD default).add ((i:Int).toNat*1)).add 0) (.int .i64 v)):=by
   intro v hv;obtain⟨g1,g2,g3⟩:=Ll P1 ns1 (i:=i) (by omega) v;rw[hv,zab hi3,<-hv]at g2;obtain⟨a',c',e,_,hxx⟩:=P1.ints;simp only[pA]at e;obtain⟨rfl,_,rfl⟩:=e;have ha:=(hxx.cell (vQ (show i<(hub i).length by omega))).2;refine⟨⟨by simpa using ha,by omega,by omega,g1⟩,i+1,rfl,by omega,g2,?_,fun y o hy=>?_⟩
   ·exact P2.keep fun z hz=>g3 z (hn z hz)
   ·by_cases hb:zf (.slice a1 288 c1)=some y
    ·rw[N1 y hb]at hy;cases hy
    ·exact(g3 y hb).trans (s y o hy)
  have meas:(fun us (_:qaA)=>288-(toInt (us.getD 0 undef)).toNat) [Value.int .i64 ((i+1:Nat):Int)] h'<(fun us (_:qaA)=>288-(toInt (us.getD 0 undef)).toNat) [Value.int .i64 (i:Int)] h':=by
   show 288-(toInt (Value.int .i64 ((i+1:Nat):Int))).toNat<288-(toInt (Value.int .i64 (i:Int))).toNat;rw[toInt_int,toInt_int];omega
  rw[w4];refine⟨fun hc=>?_,fun hc=>⟨fun hc2=>?_,fun hc2=>?_⟩⟩
  ·have hc:(i:Int)<144\/(i:Int)>=280:=by simpa using hc
   obtain⟨⟨q1,q2,q3,q4⟩,q5⟩:=step 8 (by repeat' split <;> omega);exact⟨q1,q2,q3,q4,fun _=>⟨q5,meas⟩⟩
  ·have hc:¬((i:Int)<144\/(i:Int)>=280):=by simpa using hc
   obtain⟨⟨q1,q2,q3,q4⟩,q5⟩:=step 9 (by repeat' split <;> omega);exact⟨q1,q2,q3,q4,fun _ _=>⟨q5,meas⟩⟩
  ·have hc:¬((i:Int)<144\/(i:Int)>=280):=by simpa using hc
   obtain⟨⟨q1,q2,q3,q4⟩,q5⟩:=step 7 (by repeat' split <;> omega);exact⟨q1,q2,q3,q4,fun _ _=>⟨q5,meas⟩⟩
 ·obtain rfl:i=288:=by omega
  rw[zac]at P1;refine⟨fun us h'=>∃i:Nat,us=[.int .i64 i]/\i<=32/\Part .i64 h' (.slice a1 288 c1) yB/\Part .i64 h' (.slice a2 32 c2) (List.replicate i 5++List.replicate (32-i) 0)/\qaB h h',fun us _=>32-(toInt (us.getD 0 undef)).toNat,⟨0,rfl,by omega,P1,P2,s⟩,?_⟩;rintro x h' ⟨i,hx,hi2,P1,P2,s⟩;obtain rfl:x=i:=by simpa using hx
  have hl:(List.replicate i (5:Int)++List.replicate (32-i) 0).length=32:=by rw[vR,pI,pI];omega
  refine⟨fun hlt=>?_,fun hge=>?_⟩
  ·have hi3:i<32:=by omega
   have w4:IntKind.i64.wrap ((i:Int)+1)=((i+1:Nat):Int):=z9;rw[w4];obtain⟨g1,g2,g3⟩:=Ll P2 ns2 (i:=i) (by rw[hl];omega) 5;have es:(List.replicate i (5:Int)++List.replicate (32-i) 0).set i 5=List.replicate (i+1) 5++List.replicate (32-(i+1)) 0:=by
    rw[lR _ _ (by rw[pI];omega),pI,mS,show 32-i=(32-(i+1))+1 by omega,List.replicate_succ,List.set_cons_zero,gS,vX];rfl
   rw[es]at g2;obtain⟨a',c',e,_,hxx⟩:=P2.ints;simp only[pA]at e;obtain⟨rfl,_,rfl⟩:=e;have ha:=(hxx.cell (vQ (show i<(List.replicate i (5:Int)++List.replicate (32-i) 0).length by omega))).2;refine⟨by simpa using ha,by omega,by omega,g1,⟨i+1,rfl,by omega,?_,g2,fun y o hy=>?_⟩,?_⟩
   ·exact P1.keep fun z hz=>g3 z fun e=>hn z e hz
   ·by_cases hb:zf (.slice a2 32 c2)=some y
    ·rw[N2 y hb]at hy;cases hy
    ·exact(g3 y hb).trans (s y o hy)
   ·show 32-(toInt (Value.int .i64 ((i+1:Nat):Int))).toNat<32-(toInt (Value.int .i64 (i:Int))).toNat;rw[toInt_int,toInt_int];omega
  ·obtain rfl:i=32:=by omega
   exact⟨_,_,_,_,rfl,P1,by simpa using P2,N1,N2,s⟩
theorem He(n:Nat):Own .i64 (upd h b (.cells (ints .i64 (List.replicate n 0)) T)) (.slice (some ⟨b,0,none⟩) n n) (List.replicate n 0):=by
 have:=Own.made (k:=.i64) (h:=h) (b:=b) (T:=T) (List.replicate n 0);rwa[pI]at this
theorem K8(hi:qaC S h) :
  zb oPP S qN #[] h (fun v h'=>∃a1 c1 a2 c2,v=.tuple #[.slice a1 288 c1,.slice a2 32 c2]/\Part .i64 h' (.slice a1 288 c1) yB/\Part .i64 h' (.slice a2 32 c2) (List.replicate 32 5)/\qaD h (.slice a1 288 c1)/\qaD h (.slice a2 32 c2)/\qaB h h'):=by
 refine ID (vs:=[]) trivial hi ?_;rw[zad];have e1:IntKind.i64.wrap 288=288:=by decide
 have e2:IntKind.i64.wrap 32=32:=by decide
 have m1:yE ((288:Int).toNat*1) #[Value.int .i64 0]=ints .i64 (List.replicate 288 0):=Bp (k:=.i64) 288;have m2:yE ((32:Int).toNat*1) #[Value.int .i64 0]=ints .i64 (List.replicate 32 0):=Bp (k:=.i64) 32;simp only[Tr.wp,KI,Ex.ev,coerce,toInt_int,zd,zi,ze,Cst.val,vA,vB,vC,vD,vE,vJ,vI,e1,e2,m1,m2];have ne:∀ {b b':Nat} {o:Obj},upd h b o b'=none->b≠b'/\h b'=none:=fun {b b' o} hb=>by
  have n:b≠b':=fun e=>by rw[e,upd_same]at hb;cases hb
  exact⟨n,by rw[<-upd_ne (h:=h) (o:=o) (uW n)];exact hb⟩
 refine⟨⟨by omega,by omega,by decide,fun b hb=>⟨by omega,by omega,by decide,fun b' hb' _=>?_⟩⟩,by omega,by omega,by decide,fun b hb=>⟨by omega,by omega,by decide,fun b' hb' _=>?_⟩⟩
 ·obtain⟨n,hb2⟩:=ne hb';refine Wq hi ((He (h:=h) (T:=2) 288).keep fun z hz=>?_).part (He 32).part (New.of hb) (New.of hb2) (fun z hz e=>?_) ((Sub.zx hb).trans (Sub.zx hb'))
  ·cases hz;exact upd_ne n
  ·cases hz;cases e;exact n rfl
 ·obtain⟨n,hb2⟩:=ne hb';refine Wq hi (He 288).part ((He (h:=h) (T:=2) 32).keep fun z hz=>?_).part (New.of hb2) (New.of hb) (fun z hz e=>?_) ((Sub.zx hb).trans (Sub.zx hb'))
  ·cases hz;exact upd_ne n
  ·cases hz;cases e;exact n rfl
theorem Wr(h:i<xs.length):(xs.take (i+1)).flatMap (fun c=>xq c.toNat)=(xs.take i).flatMap (fun c=>xq c.toNat)++xq xs[i].toNat:=by
 rw[mU,vQ h,gY];simp
theorem Ro{h h':qaA}(s:qaB h h'){z:Nat}(hz:h' z=none):h z=none:=by
 cases hh:h z with
 | none=>rfl
 | some o=>exact(by rw[s _ _ hh]at hz;cases hz)
def pre(xs:List Int)(i:Nat):List Int:=[1,1,0]++(xs.take i).flatMap fun c=>xq c.toNat
theorem Rp(h:i<xs.length):pre xs (i+1)=pre xs i++xq xs[i].toNat:=by
 unfold pre;rw[Wr h,vX]
theorem JB:pre xs xs.length++xq 256=x7 xs:=by unfold pre x7;rw[nI]
theorem Of(hw:∀x∈xs,0<=x/\x<=255)(hi:i<=xs.length):(pre xs i).length<=3+15*i:=by
 have:=Rl (xs:=xs.take i) fun x hx=>hw x (lH hx)
 have hl:(xs.take i).length<=i:=by rw[pW];omega
 unfold pre;rw[vR];simp only[uB,uF];omega
theorem CU(hi:qaC S h)(O:tB.O h v xs)(hw:∀x∈xs,0<=x/\x<=255)(L:jI xs) :
  zb oPP S j1 #[v] h (fun v h'=>tB.O h' v (zC xs)/\tB.New h v/\qaB h h'):=by
 obtain⟨a,c,rfl,hc,hx⟩:=Part.ints O;refine GL (vs:=[.slice a xs.length c]) ⟨rfl,trivial⟩ hi ?_;simp only[CF,Tr.wp,z8,Ex.ev,coerce,toInt_int,za,zd,zi,ze,zj,yg,zB,arith,Cst.val,SV.den,zq,zK,zz,zm,zl,zw,zY,zr,vF,vG,vA,vB,vC,vT,vO,vU,vD,vE,vJ,vI,vK,uB,uF,uE,uA,uJ,vY,vL];refine⟨fun hgt b hb=>?_,fun hle=>?_⟩
 ·have e:zC xs=[]:=vP (by omega);rw[e];exact⟨(Own.made (k:=.u8) (h:=h) (b:=b) (T:=5) []).part,New.of hb,Sub.zx hb⟩
 have hle:xs.length<=100000:=by omega
 have e:zC xs=pk (x7 xs) (x7 xs).length:=vM (by omega);rw[e];refine(Pk hi).mono ?_;rintro _ h1 ⟨a1,c1,a2,c2,rfl,P1,P2,N1,N2,s1⟩;refine⟨_,_,_,_,_,_,rfl,(qU (hi.sub s1) (xs:=yB) P1 Hc).mono ?_⟩;rintro w h2 ⟨O3,N3,s2⟩;obtain⟨a3,c3,rfl,_,hx3⟩:=xG.yT O3;rw[DF]at hx3;refine⟨_,_,_,rfl,?_⟩;have hcl:(yH yB).length=288:=by rw[DF,jx,kv]
 rw[hcl];have hi2:=hi.sub (s1.trans s2);intro b3 hb3;have s3:qaB h2 (upd h2 b3 (.cells (ints .u8 [1,1,0]) 5)):=Sub.zx hb3;have s12:=s1.trans s2;refine⟨fun us h'=>∃(i:Nat) (a:Option Addr) (c:Nat),us=[.slice a (pre xs i).length c,.int .i64 i]/\i<=xs.length/\Part .u8 h' (.slice a (pre xs i).length c) (pre xs i)/\qaD h2 (.slice a (pre xs i).length c)/\qaB h2 h',fun us _=>xs.length-(toInt (us.getD 1 undef)).toNat,⟨0,_,_,rfl,by omega,(Own.made (k:=.u8) (h:=h2) (b:=b3) (T:=5) [1,1,0]).part,New.of hb3,s3⟩,?_⟩;rintro a4 l4 c4 z h' ⟨i,a4',c4',hx1,hi3,P,N,s⟩;obtain⟨⟨rfl,rfl,rfl⟩,rfl⟩:(a4=a4'/\l4=(pre xs i).length/\c4=c4')/\z=i:=by simpa using hx1
 have hpl:=Of hw hi3;refine⟨fun hlt=>?_,fun hge=>?_⟩
 ·have hi4:i<xs.length:=by omega
  have hwi:=hw _ (pQ hi4);obtain⟨x1,x2⟩:=(hx.sub (s12.trans s)).cell (vQ hi4);obtain⟨l,b,hg,hl,hb,hcb⟩:=Ar (c:=xs[i].toNat);obtain⟨y1,y2,y3⟩:=(hx3.sub s).cell hg;have hp:2^l<=2^15:=uX (by decide) hl;have e15:2^15=32768:=by decide
  have w4:IntKind.i64.wrap ((i:Int)+1)=((i+1:Nat):Int):=z9;refine⟨by simpa using x2,by omega,hlt,xs[i],by simpa[add_add]using x1,by simpa using y3,by omega,by omega,_,_,⟨by simpa[add_add]using y1,by simpa[add_add]using y2⟩,?_⟩;refine(Tn hi2 s P N b l (by omega) (by omega) (by omega)).mono ?_;rintro _ h3 ⟨P3,N3,s3⟩;obtain⟨a5,c5,rfl,_,_⟩:=P3.ints;have ep:pre xs i++bitsOf (b:Int) l=pre xs (i+1):=by rw[Rp hi4,hcb]
  rw[ep]at P3 N3 ⊢;rw[w4];refine⟨_,_,_,rfl,⟨i+1,_,_,rfl,by omega,P3,N3,s3⟩,?_⟩;show xs.length-(toInt (Value.int .i64 ((i+1:Nat):Int))).toNat<xs.length-(toInt (Value.int .i64 (i:Int))).toNat;rw[toInt_int,toInt_int];omega
 ·obtain rfl:i=xs.length:=by omega
  obtain⟨l,b,hg,hl,hb,hcb⟩:=Ar (c:=256);obtain⟨y1,y2,y3⟩:=(hx3.sub s).cell hg;have hp:2^l<=2^15:=uX (by decide) hl;have e15:2^15=32768:=by decide
  refine⟨by simpa using y3,by simp,by omega,_,by simpa[add_add]using y2,by simpa using y3,by simp,by omega,_,by simpa[add_add]using y1,?_⟩;refine(Tn hi2 s P N b l (by omega) (by omega) (by omega)).mono ?_;rintro _ h3 ⟨P3,N3,s3⟩;obtain⟨a5,c5,rfl,_,hx5⟩:=P3.ints;have ep:pre xs xs.length++bitsOf (b:Int) l=x7 xs:=by rw[<-JB,hcb]
  rw[ep]at P3 N3 hx5 ⊢;have hsl:(x7 xs).length<=3000000:=by
   have:=Fi (c:=256);rw[<-JB,vR];omega
  refine⟨_,_,_,rfl,(Wp (hi.sub (s12.trans s3)) hx5 JA hsl).mono ?_⟩;rintro v' h4 ⟨P4,N4,s4⟩;obtain⟨a6,c6,rfl,_,_⟩:=Part.ints P4;exact⟨_,_,_,rfl,P4,fun z hz=>Ro (s12.trans s3) (N4 z hz),(s12.trans s3).trans s4⟩
theorem Gp{b:Int}:pk (bs++[b]) (bs++[b]).length=qX (pk bs bs.length) bs.length b:=by
 rw[vR,uD,pk,Wm (uN _)];congr 1;rw[uK,uM (uN _),mS];rfl
def JC(h0 h:qaA)(bN bO:Nat)(bs:List Int):Prop:=
 ∃a c,h bN=some (.cells #[.int .i64 bs.length] 3)/\h bO=some (.cells #[.slice a (pk bs bs.length).length c] 22)/\Part .u8 h (.slice a (pk bs bs.length).length c) (pk bs bs.length)/\qaD h0 (.slice a (pk bs bs.length).length c)/\zf (.slice a (pk bs bs.length).length c)≠some bN/\zf (.slice a (pk bs bs.length).length c)≠some bO/\qaB h0 h
theorem Hf(hi:qaC S h0){bN bO:Nat}(hne:bN≠bO)(hN:h0 bN=none)(hO:h0 bO=none)(h01:∀b∈bs,0<=b/\b<=1)(E:JC h0 h bN bO bs)(x n:Nat)(hx:x<=32768)(hn:n<=15)(hl:bs.length<=3000000) :
  zb oPP S x9 #[.int .u64 x,.int .i64 n,.pointer (some ⟨bN,0,none⟩),.pointer (some ⟨bO,0,none⟩)] h (fun v h'=>v=.tuple #[]/\JC h0 h' bN bO (bs++bitsOf x n)):=by
 refine F7 (vs:=[.int .u64 x,.int .i64 n,.pointer (some ⟨bN,0,none⟩),.pointer (some ⟨bO,0,none⟩)]) ⟨rfl,rfl,rfl,rfl,trivial⟩ (hi.sub E.choose_spec.choose_spec.2.2.2.2.2.2) ?_;simp only[B5,Tr.wp,Ex.ev,coerce,toInt_int,za,zd,zi,ze,zj,yg,zB,arith,Cst.val,SV.den,zw,zY,zr,ye,vA,vB,vC,vT,vO,vU,vD,vE,vJ,vI,uA,pL];have nsN:¬S bN:=fun hs=>hi _ hs hN
 have nsO:¬S bO:=fun hs=>hi _ hs hO
 refine⟨fun us h'=>∃i:Nat,us=[.int .i64 i]/\i<=n/\JC h0 h' bN bO (bs++bitsOf x i),fun us _=>n-(toInt (us.getD 0 undef)).toNat,⟨0,rfl,by omega,by simpa[bitsOf]using E⟩,?_⟩;rintro z h' ⟨i,hx1,hi2,E⟩;obtain rfl:z=i:=by simpa using hx1
 refine⟨fun hlt=>?_,fun hge=>?_⟩
 ·have hi3:i<n:=by omega
  have hlen:(bs++bitsOf x i).length=bs.length+i:=by rw[vR,xC]
  have h01':∀b∈bs++bitsOf x i,0<=b/\b<=1:=fun b hb=>by
   rcases pO.1 hb with hb | hb
   ·exact h01 b hb
   ·exact Jb b hb
  have hsucc:bs++bitsOf x (i+1)=(bs++bitsOf x i)++[(x:Int)/2^i%2]:=by rw[K7,vX]
  obtain⟨a,c,e1,e2,P,N,n1,n2,s⟩:=E;generalize bs++bitsOf x i=cs at *;have hl2:cs.length<=3000015:=by omega
  have w4:IntKind.i64.wrap ((i:Int)+1)=((i+1:Nat):Int):=z9;have ad0:∀b:Nat,(⟨b,0,none⟩:Addr).add 0=⟨b,0,none⟩:=fun b=>by rw[y9]
  have wm:((cs.length:Nat):Int).tmod 8=((cs.length%8:Nat):Int):=by rw[uG (by omega)];omega
  have wq:IntKind.i64.wrap (((cs.length:Nat):Int).tdiv 8)=((cs.length/8:Nat):Int):=by rw[uL (by omega)];exact i64_in _ (by omega)
  have w5:IntKind.i64.wrap (((cs.length:Nat):Int)+1)=(((cs++[(x:Int)/2^i%2]).length:Nat):Int):=by rw[i64_in _ (by omega),vR,uD];omega
  have hb:=EF h01' (k:=cs.length);have hp7:=zbr (n:=cs.length);have hpp:(0:Int)<2^(cs.length%8):=nG (by decide);have hmul:0<=(x:Int)/2^i%2*2^(cs.length%8)/\(x:Int)/2^i%2*2^(cs.length%8)<=2^(cs.length%8):=by
   rcases(show(x:Int)/2^i%2=0\/(x:Int)/2^i%2=1 by omega)with h | h <;> rw[h] <;> omega
  have wr:Go.bits .or .u8 (xK (pk cs cs.length) cs.length) (IntKind.u8.wrap (IntKind.u8.wrap (Go.bits .and .u64 ((x:Int).fdiv (2^min (i:Int).toNat IntKind.u64.bits)) 1)*2^min ((cs.length%8:Nat):Int).toNat IntKind.u8.bits))=xK (pk cs cs.length) cs.length+(x:Int)/2^i%2*2^(cs.length%8):=by
   have b1:IntKind.u64.bits=64:=rfl;have b2:IntKind.u8.bits=8:=rfl;have hp:(0:Int)<=2^i:=mB (nG (by decide));rw[b1,b2,vV,vV,show min i 64=i by omega,show min (cs.length%8) 8=cs.length%8 by omega,KT,pS _ hp,u8_in ((x:Int)/2^i%2) (by omega),u8_in ((x:Int)/2^i%2*2^(cs.length%8)) (by omega)];exact zcB _ hb.1 hb.2 (by omega) (by omega)
  have cellAt:∀ {h2:qaA} {b:Nat} {v:Value} {T:TypeId},h2 b=some (.cells #[v] T)->zg h2 ⟨b,0,none⟩=some v:=fun e=>by simp[zg,e]
  have okAt:∀ {h2:qaA} {b:Nat} {v:Value} {T:TypeId},h2 b=some (.cells #[v] T)->¬S b->yU S h2 ⟨b,0,none⟩:=fun e hs=>⟨⟨_,cellAt e⟩,by simp[y8,e],hs⟩
  have setAt:∀ {h2:qaA} {b:Nat} {v w:Value} {T:TypeId},h2 b=some (.cells #[v] T)->zJ h2 ⟨b,0,none⟩ w=upd h2 b (.cells #[w] T):=fun e=>by rw[kM e];rfl
  have hl1:∀o2:List Int,o2=(if cs.length%8=0 then pk cs cs.length++[0]else pk cs cs.length)->(qX (pk cs cs.length) cs.length ((x:Int)/2^i%2)).length=o2.length:=fun o2 e=>by
   rw[qX,uR,<-e]
  have fin:∀ {h2:qaA} {a:Option Addr} {c:Nat} {o2:List Int},o2=(if cs.length%8=0 then pk cs cs.length++[0]else pk cs cs.length)->Part .u8 h2 (.slice a o2.length c) o2->qaD h0 (.slice a o2.length c)->qaB h0 h2 ->
    ((!a.isNone)=true/\0<=((cs.length/8:Nat):Int)/\((cs.length/8:Nat):Int)<(o2.length:Int)/\∃x,zg h2 (((a.getD default).add (((cs.length/8:Nat):Int).toNat*1)).add 0)=some (.int .u8 x)/\x=xK (pk cs cs.length) cs.length)/\cs.length/8<o2.length:=by
   intro h2 a c o2 ho2 P N s;have hlen:cs.length/8<o2.length:=by
    have:=Ah (bs:=cs) (k:=cs.length);rw[ho2];split
    ·rw[vR,this,uD];omega
    ·omega
   obtain⟨a',c',e,_,hxx⟩:=P.ints;simp only[pA]at e;obtain⟨rfl,_,rfl⟩:=e;obtain⟨g1,g2⟩:=hxx.cell (vQ hlen);refine⟨⟨by simpa using g2,by omega,by omega,o2[cs.length/8],by simp only[vV,pY,add_add,uI];exact g1,?_⟩,hlen⟩;unfold xK;rw[<-ho2,uK,vQ hlen];rfl
  have done:∀ {h2:qaA} {a:Option Addr} {c:Nat} (o2:List Int),o2=(if cs.length%8=0 then pk cs cs.length++[0]else pk cs cs.length)->qaD h0 (.slice a o2.length c) ->
    zf (.slice a o2.length c)≠some bN->zf (.slice a o2.length c)≠some bO->Part .u8 h2 (.slice a o2.length c) (qX (pk cs cs.length) cs.length ((x:Int)/2^i%2))->qaB h0 h2->h2 bO=some (.cells #[.slice a o2.length c] 22) ->
    JC h0 (upd h2 bN (.cells #[.int .i64 (((cs++[(x:Int)/2^i%2]).length:Nat):Int)] 3)) bN bO (cs++[(x:Int)/2^i%2]):=by
   intro h2 a c o2 ho2 N m1 m2 g2 g3 f2;have e:=hl1 o2 ho2;refine⟨a,c,upd_same,?_,?_,?_,?_,?_,fun y o hy=>?_⟩
   ·rw[Gp,e,upd_ne (uW hne)];exact f2
   ·rw[Gp,e];exact g2.keep fun z hz=>upd_ne fun e=>m1 (by rw[<-e];exact hz)
   ·rw[Gp,e];exact N
   ·rw[Gp,e];exact m1
   ·rw[Gp,e];exact m2
   ·rw[upd_ne (fun e=>by rw[e,hN]at hy;cases hy)];exact g3 y o hy
  simp only[ad0];refine⟨_,cellAt e1,?_⟩;simp only[w4];refine⟨fun h0'=>?_,fun h0'=>?_⟩
  ·have h0':cs.length%8=0:=by rw[wm]at h0';simp at h0';omega
   refine⟨_,_,_,cellAt e2,fun b2 hb2=>?_⟩;have s3:qaB h' (upd h' b2 (.cells (ints .u8 [0]) 5)):=Sub.zx hb2;have hpl:=Ah (bs:=cs) (k:=cs.length);refine zI hi (s.trans s3) (P.sub s3) N (ys:=[0]) zk.new (by rw[hpl];simp only[uD];omega) fun v' h3 P3 N3 s4 k3 b3=>?_
   obtain⟨a4,c4,rfl,_,_⟩:=P3.ints;have other:∀(y:Nat) (o:Obj),h' y=some o->zf (.slice a (pk cs cs.length).length c)≠some y->h3 y=some o/\zf (.slice a4 (pk cs cs.length++[0]).length c4)≠some y:=by
    intro y o hy hny;have e5:=s3 y o hy;have hnn:upd h' b2 (.cells (ints .u8 [0]) 5) y≠none:=fun e=>by
     have e6:some o=none:=e5.symm.trans e;cases e6
    refine⟨(k3 y hnn hny).trans e5,fun e=>?_⟩;rcases b3 with b3 | b3
    ·rw[b3]at e;exact hny e
    ·exact hnn (b3 y e)
   obtain⟨d1,m1⟩:=other bN _ e1 n1;obtain⟨d2',m2⟩:=other bO _ e2 n2;simp only[ze,zd,zi];refine⟨okAt d2' nsO,fun _=>?_⟩;rw[setAt d2'];have d2:upd h3 bO (.cells #[.slice a4 (pk cs cs.length++[0]).length c4] 22) bO=some (.cells #[.slice a4 (pk cs cs.length++[0]).length c4] 22):=upd_same;have d1:upd h3 bO (.cells #[.slice a4 (pk cs cs.length++[0]).length c4] 22) bN=some (.cells #[.int .i64 ((cs.length:Nat):Int)] 3):=(upd_ne hne).trans d1;have P5:Part .u8 (upd h3 bO (.cells #[.slice a4 (pk cs cs.length++[0]).length c4] 22)) (.slice a4 (pk cs cs.length++[0]).length c4) (pk cs cs.length++[0]):=P3.keep fun z hz=>upd_ne fun e=>m2 (by rw[<-e];exact hz)
   have s5:qaB h0 (upd h3 bO (.cells #[.slice a4 (pk cs cs.length++[0]).length c4] 22)):=fun y o hy=>(upd_ne fun e=>by rw[e,hO]at hy;cases hy).trans (s4 y o hy)
   generalize upd h3 bO (.cells #[.slice a4 (pk cs cs.length++[0]).length c4] 22)=h5 at *;obtain⟨⟨q1,q2,q3,b0,q4,rfl⟩,q5⟩:=fin (o2:=(pk cs cs.length++[0])) (by rw[vP h0']) P5 N3 s5;obtain⟨g1,g2,g3,g4⟩:=Hd hi (out:=pk cs cs.length) (by rw[vP h0']) q5 P5 N3 s5 ((x:Int)/2^i%2);have f1:=(g4 bN m1).trans d1;have f2:=(g4 bO m2).trans d2;refine⟨_,_,_,cellAt d2,_,cellAt d1,?_⟩;simp only[wq];refine⟨q1,q2,q3,_,q4,by omega,_,cellAt d1,?_,q1,q2,q3,g1,?_⟩
   ·rw[wm];omega
   rw[wm,wr];refine⟨_,cellAt f1,okAt f1 nsN,⟨i+1,rfl,by omega,?_⟩,?_⟩
   ·rw[vV,setAt f1,w5,hsucc];exact done (pk cs cs.length++[0]) (by rw[vP h0']) N3 m1 m2 g2 g3 f2
   ·show n-(toInt (Value.int .i64 ((i+1:Nat):Int))).toNat<n-(toInt (Value.int .i64 (i:Int))).toNat;rw[toInt_int,toInt_int];omega
  ·have h0':¬cs.length%8=0:=by rw[wm]at h0';simp at h0';omega
   intro _;have d1:=e1;have d2:=e2;have m1:=n1;have m2:=n2;obtain⟨⟨q1,q2,q3,b0,q4,rfl⟩,q5⟩:=fin (o2:=(pk cs cs.length)) (by rw[vM h0']) P N s;obtain⟨g1,g2,g3,g4⟩:=Hd hi (out:=pk cs cs.length) (by rw[vM h0']) q5 P N s ((x:Int)/2^i%2);have f1:=(g4 bN m1).trans d1;have f2:=(g4 bO m2).trans d2;refine⟨_,_,_,cellAt d2,_,cellAt d1,?_⟩;simp only[wq];refine⟨q1,q2,q3,_,q4,by omega,_,cellAt d1,?_,q1,q2,q3,g1,?_⟩
   ·rw[wm];omega
   rw[wm,wr];refine⟨_,cellAt f1,okAt f1 nsN,⟨i+1,rfl,by omega,?_⟩,?_⟩
   ·rw[vV,setAt f1,w5,hsucc];exact done (pk cs cs.length) (by rw[vM h0']) N m1 m2 g2 g3 f2
   ·show n-(toInt (Value.int .i64 ((i+1:Nat):Int))).toNat<n-(toInt (Value.int .i64 (i:Int))).toNat;rw[toInt_int,toInt_int];omega
 ·obtain rfl:i=n:=by omega
  exact E
theorem Ws{K:qaA->Prop}(e:h b=some (.cells #[v] T))(hs:¬S b)(hK:K (upd h b (.cells #[w] T))):ye S ⟨b,0,none⟩ 0 [w] h K:=by
 have ad0:(⟨b,0,none⟩:Addr).add 0=⟨b,0,none⟩:=by rw[y9]
 refine⟨by rw[ad0];exact⟨⟨v,by simp[zg,e]⟩,by simp[y8,e],hs⟩,?_⟩;rw[ad0,kM e];exact hK
theorem Wt:∀b∈pre xs i,0<=b/\b<=1:=fun b hb=>by
 unfold pre at hb;rcases pO.1 hb with h | h
 ·simp at h;omega
 ·obtain⟨c,_,hc⟩:=List.mem_flatMap.1 h;exact Lj b hc
theorem CV(hi:qaC S h)(O:tB.O h v xs)(hw:∀x∈xs,0<=x/\x<=255)(L:jI xs) :
  zb oPP S j0 #[v] h (fun v h'=>tB.O h' v (zC xs)/\tB.New h v/\qaB h h'):=by
 obtain⟨a,c,rfl,hc,hx⟩:=Part.ints O;refine GK (vs:=[.slice a xs.length c]) ⟨rfl,trivial⟩ hi ?_;simp only[CE,Tr.wp,z8,Ex.ev,coerce,toInt_int,za,zd,zi,ze,zj,yg,zB,arith,Cst.val,SV.den,zq,zK,zz,zm,zl,yF,zw,zY,zr,vF,vG,nJ,vA,vB,vC,vT,vO,vU,vD,vE,vJ,vI,vK,uB,uF,uE,uA,uJ,vY,vL];refine⟨fun hgt b hb=>?_,fun hle=>?_⟩
 ·have e:zC xs=[]:=vP (by omega);rw[e];exact⟨(Own.made (k:=.u8) (h:=h) (b:=b) (T:=5) []).part,New.of hb,Sub.zx hb⟩
 have hle:xs.length<=100000:=by omega
 have e:zC xs=pk (x7 xs) (x7 xs).length:=vM (by omega);rw[e];refine(K8 hi).mono ?_;rintro _ h1 ⟨a1,c1,a2,c2,rfl,P1,P2,N1,N2,s1⟩;refine⟨_,_,_,_,_,_,rfl,(EA (hi.sub s1) (xs:=yB) P1 Hc).mono ?_⟩;rintro w h2 ⟨O3,N3,s2⟩;obtain⟨a3,c3,rfl,_,hx3⟩:=xG.yT O3;rw[DF]at hx3;refine⟨_,_,_,rfl,?_⟩;have hcl:(yH yB).length=288:=by rw[DF,jx,kv]
 rw[hcl];have hi2:=hi.sub (s1.trans s2);have s12:=s1.trans s2;intro b4 hb4 bO hbO;have ne:∀ {g:qaA} {b b':Nat} {o:Obj},upd g b o b'=none->b≠b'/\g b'=none:=fun {g b b' o} hb=>by
  have n:b≠b':=fun e=>by rw[e,upd_same]at hb;cases hb
  exact⟨n,by rw[<-upd_ne (h:=g) (o:=o) (uW n)];exact hb⟩
 obtain⟨n4O,hO⟩:=ne hbO;have nsO:¬S bO:=fun hs=>hi2 _ hs hO
 refine Ws (v:=.slice none 0 0) upd_same nsO fun bN hbN=>?_
 rw[xe]at hbN ⊢;obtain⟨nON,hN'⟩:=ne hbN;obtain⟨n4N,hN⟩:=ne hN';have nsN:¬S bN:=fun hs=>hi2 _ hs hN
 refine Ws (v:=.int .i64 0) upd_same nsN ?_;rw[xe];have E0:JC h2 (upd (upd (upd h2 b4 (.cells #[] 5)) bO (.cells #[.slice (some ⟨b4,0,none⟩) 0 0] 22)) bN (.cells #[.int .i64 0] 3)) bN bO []:=by
  refine⟨some ⟨b4,0,none⟩,0,upd_same,?_,?_,New.of hb4,fun e=>by cases e;exact n4N rfl,fun e=>by cases e;exact n4O rfl,?_⟩
  ·rw[upd_ne nON];exact upd_same
  ·exact((Own.made (k:=.u8) (h:=h2) (b:=b4) (T:=5) []).part).keep fun z hz=>by cases hz;exact(upd_ne n4N).trans (upd_ne n4O)
  ·exact((Sub.zx hb4).trans (Sub.zx hbO)).trans (Sub.zx hbN)
 have hne:bN≠bO:=uW nON;refine(Hf hi2 hne hN hO (bs:=[]) (fun b hb=>by cases hb) E0 1 1 (by omega) (by omega) (by simp)).mono ?_;rintro _ h3 ⟨rfl,E1⟩;refine⟨rfl,(Hf hi2 hne hN hO (bs:=[]++bitsOf (1:Nat) 1) (fun b hb=>Jb b hb) E1 1 2 (by omega) (by omega) (by simp[bitsOf])).mono ?_⟩;rintro _ h4 ⟨rfl,E2⟩;refine⟨rfl,?_⟩;have ep:[]++bitsOf (1:Nat) 1++bitsOf (1:Nat) 2=pre xs 0:=by unfold pre;rw[List.take_zero];decide
 rw[ep]at E2;refine⟨fun us h'=>∃i:Nat,us=[.int .i64 i]/\i<=xs.length/\JC h2 h' bN bO (pre xs i),fun us _=>xs.length-(toInt (us.getD 0 undef)).toNat,⟨0,rfl,by omega,E2⟩,?_⟩;rintro z h' ⟨i,hx1,hi3,E⟩;obtain rfl:z=i:=by simpa using hx1
 have hpl:=Of hw hi3;have s:qaB h2 h':=E.choose_spec.choose_spec.2.2.2.2.2.2;refine⟨fun hlt=>?_,fun hge=>?_⟩
 ·have hi4:i<xs.length:=by omega
  have hwi:=hw _ (pQ hi4);obtain⟨x1,x2⟩:=(hx.sub (s12.trans s)).cell (vQ hi4);obtain⟨l,b,hg,hl,hb,hcb⟩:=Ar (c:=xs[i].toNat);obtain⟨y1,y2,y3⟩:=(hx3.sub s).cell hg;have hp:2^l<=2^15:=uX (by decide) hl;have e15:2^15=32768:=by decide
  have w4:IntKind.i64.wrap ((i:Int)+1)=((i+1:Nat):Int):=z9;refine⟨by simpa using x2,by omega,hlt,xs[i],by simpa[add_add]using x1,by simpa using y3,by omega,by omega,_,by simpa[add_add]using y2,by simpa using y3,by omega,by omega,_,by simpa[add_add]using y1,?_⟩;refine(Hf hi2 hne hN hO Wt E b l (by omega) (by omega) (by omega)).mono ?_;rintro _ h5 ⟨rfl,E5⟩;have ep:pre xs i++bitsOf (b:Int) l=pre xs (i+1):=by rw[Rp hi4,hcb]
  rw[ep]at E5;rw[w4];refine⟨rfl,⟨i+1,rfl,by omega,E5⟩,?_⟩;show xs.length-(toInt (Value.int .i64 ((i+1:Nat):Int))).toNat<xs.length-(toInt (Value.int .i64 (i:Int))).toNat;rw[toInt_int,toInt_int];omega
 ·obtain rfl:i=xs.length:=by omega
  obtain⟨l,b,hg,hl,hb,hcb⟩:=Ar (c:=256);obtain⟨y1,y2,y3⟩:=(hx3.sub s).cell hg;have hp:2^l<=2^15:=uX (by decide) hl;have e15:2^15=32768:=by decide
  refine⟨by simpa using y3,by simp,by omega,_,by simpa[add_add]using y2,by simpa using y3,by simp,by omega,_,by simpa[add_add]using y1,?_⟩;refine(Hf hi2 hne hN hO Wt E b l (by omega) (by omega) (by omega)).mono ?_;rintro _ h5 ⟨rfl,E5⟩;have ep:pre xs xs.length++bitsOf (b:Int) l=x7 xs:=by rw[<-JB,hcb]
  rw[ep]at E5;obtain⟨a6,c6,e1,e2,P6,N6,m1,m2,s6⟩:=E5;exact⟨rfl,_,_,_,by rw[y9];simp[zg,e2],P6,fun z hz=>Ro s12 (N6 z hz),s12.trans s6⟩
end
variable {d sz:Nat}{K L:List Int}
section
section
def RingAt(h0 h:qaA)(b:Nat)(T:TypeId)(sz:Nat)(K:List Int):Prop:=
 ∃(d:List Int) (at_ n:Nat),h b=some (yw sz d at_ n T)/\RingS sz d at_ n K/\qaB h0 h/\h0 b=none
theorem yz{o:Obj}(hs:qaB h0 h1)(hb:h0 b=none):qaB h0 (upd h1 b o):=fun x u hx=>by
 rw[upd_ne (fun e=>by rw[e,hb]at hx;cases hx)];exact hs x u hx
theorem RingAt.sub(H:RingAt h0 h b T sz K):qaB h0 h:=by obtain⟨_,_,_,_,_,s,_⟩:=H;exact s
theorem RingAt.mono(H:RingAt h0 h b T sz K)(s:qaB h h1):RingAt h0 h1 b T sz K:=by
 obtain⟨d,at_,n,hb,R,s0,hn⟩:=H;exact⟨d,at_,n,s b _ hb,R,s0.trans s,hn⟩
theorem U2(hi:qaC S h0)(H:RingAt h0 h b T sz K)(a:Option Addr)(c:Nat)(ys:List Int)(hc:ys.length<=c)(hl:ys.length<=1099511627776)(hx:∀h':qaA,(∀y,y≠b->h' y=h y)->zk h' .u8 a ys) :
  zb oPP S ks #[.pointer (some ⟨b,0,none⟩),.slice a ys.length c] h (fun v h'=>v=.tuple #[]/\RingAt h0 h' b T sz (zZ sz (K++ys))/\∀y,y≠b->h' y=h y):=by
 obtain⟨d,at_,n,hb,R,s,hbn⟩:=id H;have hsb:¬S b:=fun hs=>hi b hs hbn
 refine IF (vs:=[.pointer (some ⟨b,0,none⟩),.slice a ys.length c]) ⟨rfl,rfl,trivial⟩ (hi.sub s) ?_;simp only[Ep,Tr.wp,Ex.ev,coerce,toInt_int,za,zd,zi,ze,zj,zN,yq,kp,qa,wE,zB,arith,Cst.val,SV.den,zw,zY,zr,ye,vA,vB,vC,vO,vU,vD,vE,vJ,vI,uA,pL];have hs1:=R.s1;have hs2:=R.s2;have w1:IntKind.i64.wrap ((ys.length:Int)-(sz:Int))=(ys.length:Int)-sz:=i64_in _ (by omega);refine⟨by simp,(sz:Int),by simpa[zp]using FT hb,?_⟩;rw[w1];have wm:(if(ys.length:Int)-(sz:Int)>0 then(ys.length:Int)-(sz:Int)else 0).toNat=ys.length-sz:=by split <;> omega
 obtain⟨m,hm⟩:∃m,m=ys.length-sz:=⟨_,rfl⟩;refine⟨by split <;> omega,by split <;> omega,?_⟩;rw[wm,<-hm];obtain⟨zs,hz⟩:∃zs,zs=ys.drop m:=⟨_,rfl⟩;have hzl:zs.length=ys.length-m:=by rw[hz,pM]
 have hdr:(ys.drop m).take (ys.length-m)=zs:=by rw[hz];exact lK (by rw[pM];omega)
 have hK:zZ sz (K++zs)=zZ sz (K++ys):=by rw[hz];exact Ur (by omega)
 have cut:∀h':qaA,(∀y,y≠b->h' y=h y)->∃a',kJ 1 a m ys.length c=.slice a' zs.length (c-m)/\zk h' .u8 a' zs:=fun h' hh=>by
  obtain⟨a',e,H'⟩:=qK (hx h' hh) (lo:=m) (hi:=ys.length) (m:=c) (by omega) (by omega) hc;rw[hdr]at e H';exact⟨a',e,H'⟩
 refine⟨fun us h'=>∃(i:Nat) (d:List Int) (at_ n:Nat),us=[.int .i64 i]/\i<=zs.length/\h'=upd h b (yw sz d at_ n T)/\RingS sz d at_ n (zZ sz (K++zs.take i)),fun us _=>zs.length-(toInt (us.getD 0 undef)).toNat,⟨0,d,at_,n,rfl,by omega,(qb hb).symm,?_⟩,?_⟩
 ·rw[List.take_zero,vK,QR (by have:=R.kn;have:=R.n1;omega)];exact R
 rintro x h' ⟨i,d,at_,n,hx1,hi2,rfl,R⟩;obtain rfl:x=i:=by simpa using hx1
 have hb':upd h b (yw sz d at_ n T) b=some (yw sz d at_ n T):=upd_same;obtain⟨a',ea,hz'⟩:=cut (upd h b (yw sz d at_ n T)) (fun y hy=>upd_ne hy);rw[ea];simp only[zp,uI,uE,pY,zd,ze,yg,vV];refine⟨fun hlt=>?_,fun hge=>?_⟩
 ·have hi3:i<zs.length:=by omega
  obtain⟨g1,g2⟩:=hz'.cell (vQ hi3);have ha1:=R.a1;have hdl:=R.dl;have hn1:=R.n1;have w2:IntKind.i64.wrap ((i:Int)+1)=((i+1:Nat):Int):=z9;have w3:(IntKind.i64.wrap ((at_:Int)+1)).tmod (sz:Int)=(((at_+1)%sz:Nat):Int):=by
   rw[i64_in _ (by omega),uG (by omega)];push_cast;rfl
  have w4:(if(sz:Int)<IntKind.i64.wrap ((n:Int)+1)then(sz:Int)else IntKind.i64.wrap ((n:Int)+1))=((min (n+1) sz:Nat):Int):=by
   rw[i64_in _ (by omega)];split <;> omega
  have P:=R.push zs[i];rw[CC,vX,show zs.take i++[zs[i]]=zs.take (i+1) by rw[mU,vQ hi3];rfl]at P;have s1:=VI hb' (i:=at_) (by omega) zs[i];rw[xe]at s1;have hb1:upd h b (yw sz (d.set at_ zs[i]) at_ n T) b=some (yw sz (d.set at_ zs[i]) at_ n T):=upd_same;have hd1:(d.set at_ zs[i]).length=32768:=by rw[uR];exact hdl
  have s2:=Us hb1 hd1 (((at_+1)%sz:Nat):Int);rw[xe]at s2;have hb2:upd h b (yw sz (d.set at_ zs[i]) (((at_+1)%sz:Nat):Int) n T) b=some (yw sz (d.set at_ zs[i]) (((at_+1)%sz:Nat):Int) n T):=upd_same;have s3:=VJ hb2 hd1 ((min (n+1) sz:Nat):Int);rw[xe]at s3;refine⟨by simpa using g2,by omega,hlt,zs[i],by simpa[add_add]using g1,by simp,at_,J3 hb' hdl,by simp,by omega,by omega,NI hb' hsb (VH hb' (vQ (by omega))),by simp,?_⟩;rw[vV,s1];refine⟨at_,J3 hb1 hd1,by simp,sz,FT hb1,by simp;omega,by simp,NI hb1 hsb (J3 hb1 hd1),by simp,?_⟩;rw[w3,s2];refine⟨n,QS hb2 hd1,by simp,sz,FT hb2,by simp,NI hb2 hsb (QS hb2 hd1),?_⟩;rw[w2];rw[w4,s3];exact⟨⟨i+1,_,_,_,rfl,by omega,rfl,P⟩,by simp only[vA,toInt_int];omega⟩
 ·obtain rfl:i=zs.length:=by omega
  rw[nI,hK]at R;exact⟨⟨d,at_,n,upd_same,R,yz s hbn,hbn⟩,fun y hy=>upd_ne hy⟩
theorem Rq(hi:qaC S h)(a:Option Addr)(c:Nat)(ys:List Int)(hc:ys.length<=c)(hl:ys.length<=1099511627776)(hx:zk h .u8 a ys)(h1:1<=sz)(h2:sz<=32768) :
  zb oPP S AL #[.int .i64 sz,.slice a ys.length c] h (fun v h'=>∃b T,v=.pointer (some ⟨b,0,none⟩)/\RingAt h h' b T sz (zZ sz ys)):=by
 refine My (vs:=[.int .i64 sz,.slice a ys.length c]) ⟨rfl,rfl,trivial⟩ hi ?_;simp only[HF,Tr.wp,z8,Ex.ev,coerce,toInt_int,zd,zi,ze,zj,Cst.val,SV.den,zq,zK,zz,zm,yF,zw,vF,vG,nJ,vA,vB,vD,vE,vJ,vI,vK,uJ];intro b hb;rw[VK];have hbn:upd h b (yw sz (List.replicate 32768 0) 0 0 139) b=some (yw sz (List.replicate 32768 0) 0 0 139):=upd_same;have H:RingAt h (upd h b (yw sz (List.replicate 32768 0) 0 0 139)) b 139 sz []:=⟨_,0,0,upd_same,RingS.new h1 h2,Sub.zx hb,hb⟩;refine(U2 hi H a c ys hc hl fun h' hh=>?_).mono ?_
 ·intro i x hxi;obtain⟨ad,e,hc⟩:=hx i x hxi;refine⟨ad,e,?_⟩;have hne:(ad.add i).block≠b:=fun e=>jv hc (e▸hb)
  unfold zg at hc ⊢;rw[hh _ hne,upd_ne hne];exact hc
 ·rintro _ h2 ⟨rfl,H2,_⟩;rw[vI]at H2;exact⟨rfl,b,139,rfl,H2⟩
end
section
theorem Yk(hi:qaC S h)(a:Option Addr)(c:Nat)(ys:List Int)(n:Nat)(hc:ys.length<=c)(hl:ys.length<=1099511627776)(hn:n<=32768)(hx:zk h .u8 a ys) :
  zb oPP S Dh #[.slice a ys.length c,.int .i64 n] h (fun v h'=>tB.O h' v (zZ n ys)/\tB.New h v/\qaB h h'):=by
 refine Mz (vs:=[.slice a ys.length c,.int .i64 n]) ⟨rfl,rfl,trivial⟩ hi ?_;simp only[HI,Tr.wp,Ex.ev,coerce,toInt_int,za,zd,zi,ze,qa,wE,zB,arith,Cst.val,SV.den,vA,vB,vC,vO,vU,vD,vE,vJ,vI];have w1:IntKind.i64.wrap ((ys.length:Int)-(n:Int))=(ys.length:Int)-n:=i64_in _ (by omega);rw[w1];have fin:∀(a':Option Addr) (c':Nat) (zs:List Int),zk h .u8 a' zs->zs=zZ n ys->∀b,h b=none->appW S 5 1 1 [.int .u8 0] (.slice (some ⟨b,0,none⟩) 0 0) (.slice a' zs.length c') (upd h b (.cells #[] 5)) (fun v h'=>tB.O h' (.slice (slA v) (slL v) (slC v)) (zZ n ys)/\tB.New h (.slice (slA v) (slL v) (slC v))/\qaB h h'):=fun a' c' zs hz e b hb=>by
  have s1:qaB h (upd h b (.cells (ints .u8 []) 5)):=Sub.zx hb;have hzl:zs.length<=ys.length:=by rw[e,jz];omega
  refine zI hi s1 (Own.made []).part (New.of hb) (hz.sub s1) (by simp only[uF];omega) fun v' h' o n' s _ _=>?_
  obtain⟨a4,c4,rfl,_,_⟩:=o.ints;rw[vI,e]at o n';simp only[ze,zd,zi,vI,e];exact⟨o,n',s⟩
 refine⟨fun hgt=>?_,fun hle _=>?_⟩
 ·refine⟨by omega,by omega,fun _=>?_⟩;have ee:((ys.length:Int)-(n:Int)).toNat=ys.length-n:=by omega
  rw[ee];obtain⟨a',e,H'⟩:=qK hx (lo:=ys.length-n) (hi:=ys.length) (m:=c) (by omega) (by omega) hc;have hdr:(ys.drop (ys.length-n)).take (ys.length-(ys.length-n))=zZ n ys:=lK (by rw[pM];omega);rw[hdr]at e H';simp only[e,ze,zd,zi];exact fun b hb=>fin a' _ _ H' rfl b hb
 ·exact fun b hb=>fin a c ys hx (QR (by omega)).symm b hb
def jr(d:Nat)(L:List Int):Nat->List Int
 | 0=>L
 | n+1=>jr d L n++[(jr d L n).getD ((jr d L n).length-d) 0]
theorem EG:(jr d L n).length=L.length+n:=by
 induction n with
 | zero=>rfl
 | succ n ih=>simp only[jr,vR,ih,uD];omega
theorem zbs(hi:qaC S h0)(H:RingAt h0 h b T sz K)(d:Int)(h1:1<=d)(h2:d<=(K.length:Int)) :
  zb oPP S A6 #[.pointer (some ⟨b,0,none⟩),.int .i64 d] h (fun v h'=>v=.int .u8 (K.getD (K.length-d.toNat) 0)/\h'=h):=by
 obtain⟨ds,at_,n,hb,R,s,hbn⟩:=id H;refine HY (vs:=[.pointer (some ⟨b,0,none⟩),.int .i64 d]) ⟨rfl,rfl,trivial⟩ (hi.sub s) ?_;simp only[Dx,Tr.wp,Ex.ev,coerce,toInt_int,za,zj,zN,yq,zB,arith,Cst.val,SV.den,zw,zr,vA,vB,vO,vJ,vI,uA];have hs1:=R.s1;have hs2:=R.s2;have ha1:=R.a1;have hdl:=R.dl;have hn1:=R.n1;have hkn:=R.kn;have w1:IntKind.i64.wrap (IntKind.i64.wrap ((at_:Int)-d)+(sz:Int))=((at_+sz-n+(n-d.toNat):Nat):Int):=by
  rw[i64_in ((at_:Int)-d) (by omega),i64_in _ (by omega)];omega
 have w2:((at_+sz-n+(n-d.toNat):Nat):Int).tmod (sz:Int)=(((at_+sz-n+(n-d.toNat))%sz:Nat):Int):=by
  rw[uG (by omega)];push_cast;rfl
 have hlt:(at_+sz-n+(n-d.toNat))%sz<sz:=fV _ (by omega);have hrd:=R.rd (n-d.toNat) (by omega);simp only[zp,uI,uE];refine⟨by simp,at_,J3 hb hdl,by simp,sz,FT hb,by simp,sz,FT hb,by simp;omega,by simp,?_⟩;rw[w1,w2];have hk:K[n-d.toNat]? = some K[n-d.toNat]:=vQ (by omega);rw[hk]at hrd;rw[vV,pY];refine⟨by omega,by omega,_,VH hb hrd,?_⟩;have e:K.getD (K.length-d.toNat) 0=K[n-d.toNat]:=by
  have e1:K.length-d.toNat=n-d.toNat:=by omega
  rw[uK,e1,hk];rfl
 rw[e]
theorem U3(h1:1<=d)(h2:d<=sz)(h3:d<=L.length):(zZ sz L).getD ((zZ sz L).length-d) 0=L.getD (L.length-d) 0:=by
 rw[jz,uK,uK];unfold zZ;rw[mO];congr 2;omega
theorem Yn(hi:qaC S h0)(H:RingAt h0 h b T sz (zZ sz L))(d n:Int)(d1:1<=d)(d2:d<=(L.length:Int))(d3:d<=(sz:Int))(hn:0<=n/\n<=258)(hl:L.length<=32768) :
  zb oPP S wI #[.pointer (some ⟨b,0,none⟩),.int .i64 d,.int .i64 n] h (fun v h'=>tB.O h' v ((jr d.toNat L n.toNat).drop L.length)/\tB.New h0 v/\RingAt h0 h' b T sz (zZ sz (jr d.toNat L n.toNat))):=by
 refine Gd (vs:=[.pointer (some ⟨b,0,none⟩),.int .i64 d,.int .i64 n]) ⟨rfl,rfl,rfl,trivial⟩ (hi.sub H.sub) ?_;simp only[BS,Tr.wp,z8,Ex.ev,coerce,toInt_int,za,zd,zi,ze,zN,zB,arith,Cst.val,SV.den,zq,zK,zz,zm,zl,zw,zY,vF,vG,vA,vB,vC,vO,vU,vD,vE,vJ,vI,vK,uJ,vY,vL];intro b0 hb0;have hrb:h b≠none:=by obtain⟨_,_,_,hb,_⟩:=H;rw[hb];simp
 have hne0:b0≠b:=fun e=>hrb (e▸hb0)
 have s0:qaB h (upd h b0 (.cells (ints .u8 []) 5)):=Sub.zx hb0;obtain⟨D,hD⟩:∃D,D=d.toNat:=⟨_,rfl⟩;rw[<-hD];refine⟨fun us h'=>∃(a:Option Addr) (c i:Nat),us=[.slice a i c,.int .i64 i]/\i<=n.toNat/\Part .u8 h' (.slice a i c) ((jr D L i).drop L.length)/\qaD h0 (.slice a i c)/\zf (.slice a i c)≠some b/\RingAt h0 h' b T sz (zZ sz (jr D L i)),fun us _=>n.toNat-(toInt (us.getD 1 undef)).toNat,⟨_,_,0,rfl,by omega,?_,New.of (zU H.sub hb0),fun e=>hne0 (by cases e;rfl),H.mono s0⟩,?_⟩
 ·have e:(jr D L 0).drop L.length=[]:=by simp[jr]
  rw[e];exact(Own.made (k:=.u8) (b:=b0) (T:=5) (h:=h) []).part
 rintro a l c x h' ⟨a',c',i,hx1,hi2,P,N,hne,R⟩;obtain⟨⟨rfl,rfl,rfl⟩,rfl⟩:(a=a'/\l=i/\c=c')/\x=i:=by simpa using hx1
 have hll:((jr D L l).drop L.length).length=l:=by rw[pM,EG];omega
 refine⟨fun hlt=>?_,fun hge=>?_⟩
 ·have hK:d<=((zZ sz (jr D L l)).length:Int):=by rw[jz,EG];omega
  refine(zbs hi R d d1 hK).mono ?_;rintro _ hq ⟨rfl,eq⟩;rw[eq,<-hD,U3 (by omega) (by omega) (by rw[EG];omega)];obtain⟨y,hy⟩:∃y,y=(jr D L l).getD ((jr D L l).length-D) 0:=⟨_,rfl⟩;rw[<-hy];have hrep:jr D L (l+1)=jr D L l++[y]:=by rw[jr,<-hy]
  refine⟨_,rfl,fun b1 hb1=>?_⟩;have hrb':h' b≠none:=by obtain⟨_,_,_,hb,_⟩:=R;rw[hb];simp
  have s1:qaB h' (upd h' b1 (.cells (ints .u8 [y]) 5)):=Sub.zx hb1;have P1:=P.sub s1;have P2:Part .u8 (upd h' b1 (.cells (ints .u8 [y]) 5)) (.slice a l c) ((jr D L l).drop L.length):=P1;refine zI hi (R.sub.trans s1) P2 N (ys:=[y]) zk.new (by rw[hll];simp only[uD];omega) fun v1 h1 o1 n1 s2 keep hblk=>?_
  obtain⟨a3,c3,rfl,_,_⟩:=o1.ints;have keep':∀x,upd h' b1 (.cells (ints .u8 [y]) 5) x≠none->zf (.slice a l c)≠some x->h1 x=upd h' b1 (.cells (ints .u8 [y]) 5) x:=keep;have R1:RingAt h0 h1 b T sz (zZ sz (jr D L l)):=by
   obtain⟨ds,at_,m,hb,RS,_,hn⟩:=R.mono s1;refine⟨ds,at_,m,?_,RS,s2,hn⟩;rw[keep' b (by rw[hb];simp) hne];exact hb
  have hne1:zf (.slice a3 ((jr D L l).drop L.length++[y]).length c3)≠some b:=by
   rcases hblk with e | e
   ·rw[e];exact hne
   ·intro e2;have h3:upd h' b1 (.cells (ints .u8 [y]) 5) b=none:=e b e2;obtain⟨_,_,_,hb,_⟩:=R.mono s1;rw[hb]at h3;cases h3
  intro b2 hb2;have hne2:b2≠b:=fun e=>by
   obtain⟨_,_,_,hb,_⟩:=R1;rw[e,hb]at hb2;cases hb2
  have s3:qaB h1 (upd h1 b2 (.cells (ints .u8 [y]) 5)):=Sub.zx hb2;refine(U2 hi (R1.mono s3) (some ⟨b2,0,none⟩) 1 [y] (uN _) (by simp) (fun h'' hh=>?_)).mono ?_
  ·have hk:h'' b2=(upd h1 b2 (.cells (ints .u8 [y]) 5)) b2:=hh b2 hne2;rw[upd_same]at hk;intro i x hxi;refine⟨_,rfl,?_⟩;rw[y9];simp only[zg,hk];exact QP (sp:=[]) (xs:=[y]) hxi
  ·rintro _ h3 ⟨rfl,R3,f3⟩;rw[CC,<-hrep]at R3;have w4:IntKind.i64.wrap ((l:Int)+1)=((l+1:Nat):Int):=z9;have e1:(jr D L l).drop L.length++[y]=(jr D L (l+1)).drop L.length:=by
    rw[hrep,mX (by rw[EG];omega)]
   have e2:((jr D L (l+1)).drop L.length).length=l+1:=by rw[pM,EG];omega
   rw[e1]at o1 n1 hne1 ⊢;rw[w4,ze,zd,zi,e2];rw[e2]at o1 n1 hne1;exact⟨rfl,⟨a3,c3,l+1,rfl,by omega,Part.keep (o1.sub s3) (fun z hz=>f3 z (fun e=>hne1 (e▸hz))),n1,hne1,R3⟩,by simp only[vB,vA,toInt_int];omega⟩
 ·obtain rfl:l=n.toNat:=by omega
  exact⟨P,N,R⟩
end
end
section
abbrev zae:=Int×List Int×Int×Unit
variable {x:zae}
end
end
end Go.Proofs.YtpodkihpnjhamaaGreatDoor
