import Derived.IntWalk
import Derived.Test.YtopmdepgpabipaaGreatDoorChecked
import Derived.Conc.WgGenN3
import Derived.Test.YtopmdepgpabipaaGreatDoorDb2
import Derived.Test.YtopmdepgpabipaaGreatDoorDb3
import Derived.Test.YtopmdepgpabipaaGreatDoorDb4
import Derived.Test.YtopmdepgpabipaaGreatDoorDb5
import Derived.Test.YtopmdepgpabipaaGreatDoorDb6
import Derived.Test.YtopmdepgpabipaaGreatDoorDb7
set_option maxRecDepth 100000
set_option maxHeartbeats 8000000
set_option linter.unusedVariables false
set_option linter.unusedSimpArgs false
set_option linter.unusedSectionVars false
namespace Go.Proofs.YtopmdepgpabipaaGreatDoor
open Go Go.Eng Go.IntWalk
section
variable {r:Rd}{al all bs ds xs ys:List Int}{F c ca dist dl f n room s sz:Nat}{w:Bool}{cd cl cs:List (Nat×Nat)}{k x:Int}{a a1 a2 aa ad:Option Addr}{u v:Value}{g h h' h0:qaA}{S:Shared}
section
section
def tell(dl room:Nat)(r:Rd)(al d:List Int):Rd×List Int:=
 if r.k=0 then(if room<al.length-dl+d.length then(⟨r.i,6⟩,al)else(r,al++d))else(r,al)
def alg(r:Rd):Rd:=if r.k=0 then⟨(r.i+7)/8*8,0⟩else r
def stL(bs:List Int)(dl room:Nat):Nat->Rd->List Int->Rd×List Int
 | 0,r,al=>(r,al)
 | n+1,r,al=>if r.k=0 then stL bs dl room n (tell dl room (tk bs 8 r).1 al [(tk bs 8 r).2]).1 (tell dl room (tk bs 8 r).1 al [(tk bs 8 r).2]).2 else(r,al)
def stN(bs:List Int)(r:Rd):Int:=(tk bs 16 (alg r)).2
def stR(bs:List Int)(r:Rd):Rd:=bd ((tk bs 16 (tk bs 16 (alg r)).1).2 != 65535-stN bs r) (tk bs 16 (tk bs 16 (alg r)).1).1
def stF(bs:List Int)(dl room:Nat)(r:Rd)(al:List Int):Rd×List Int:=stL bs dl room (stN bs r).toNat (stR bs r) al
def yL(s:Nat):Nat×Nat:=if s=285 then(258,0)else if s<265 then(s-254,0)else((4+(s-265)%4)*2^((s-265)/4+1)+3,(s-265)/4+1)
def yW(d:Nat):Nat×Nat:=if d<4 then(d+1,0)else((2+d%2)*2^(d/2-1)+1,d/2-1)
def cpD(al:List Int)(dist n:Nat):List Int:=(List.range n).map fun k=>al.getD (al.length-dist+k%dist) 0
def cp1(bs:List Int)(r:Rd)(s:Nat):Rd×Int:=tk bs (yL s).2 r
def cp2(bs:List Int)(cd:List (Nat×Nat))(r:Rd)(s:Nat):Rd×Int:=sy bs cd (cp1 bs r s).1
def cp3(bs:List Int)(cd:List (Nat×Nat))(r:Rd)(s:Nat):Rd:=bd (decide (29<(cp2 bs cd r s).2)) (cp2 bs cd r s).1
def cp4(bs:List Int)(cd:List (Nat×Nat))(r:Rd)(s:Nat):Rd×Int:=tk bs (yW (cp2 bs cd r s).2.toNat).2 (cp3 bs cd r s)
def yE(bs:List Int)(cd:List (Nat×Nat))(r:Rd)(s:Nat):Nat:=(yW (cp2 bs cd r s).2.toNat).1+(cp4 bs cd r s).2.toNat
def jr(bs:List Int)(r:Rd)(s:Nat):Nat:=(yL s).1+(cp1 bs r s).2.toNat
def cp5(bs:List Int)(cd:List (Nat×Nat))(sz:Nat)(r:Rd)(al:List Int)(s:Nat):Rd:=bd (decide (al.length<yE bs cd r s)||decide (sz<yE bs cd r s)) (cp4 bs cd r s).1
def cpF(bs:List Int)(cd:List (Nat×Nat))(dl room sz:Nat)(r:Rd)(al:List Int)(s:Nat):Rd×List Int:=
 if(cp3 bs cd r s).k≠0 then(cp3 bs cd r s,al)
 else if(cp5 bs cd sz r al s).k≠0 then(cp5 bs cd sz r al s,al)
 else tell dl room (cp5 bs cd sz r al s) al (cpD al (yE bs cd r s) (jr bs r s))
def sy1(bs:List Int)(cd:List (Nat×Nat))(dl room sz:Nat)(r:Rd)(al:List Int)(x:Int):Rd×List Int:=
 if x<256 then tell dl room r al [x]else if 285<x then(bd true r,al)else cpF bs cd dl room sz r al x.toNat
def syF(bs:List Int)(cl cd:List (Nat×Nat))(dl room sz:Nat):Nat->Rd->List Int->Rd×List Int
 | 0,r,al=>(r,al)
 | f+1,r,al=>if r.k=0 then
   (if(sy bs cl r).1.k≠0\/(sy bs cl r).2=256 then((sy bs cl r).1,al)else syF bs cl cd dl room sz f (sy1 bs cd dl room sz (sy bs cl r).1 al (sy bs cl r).2).1 (sy1 bs cd dl room sz (sy bs cl r).1 al (sy bs cl r).2).2)
  else(r,al)
def le2(r r':Rd):Prop:=r'.k=0->r.k=0/\r.i<=r'.i
theorem le2.refl:le2 r r:=fun h=>⟨h,Int.le_refl _⟩
theorem le2.trans{a b c:Rd}(H:le2 a b)(G:le2 b c):le2 a c:=fun h=>by
 obtain⟨h1,h2⟩:=G h;obtain⟨h3,h4⟩:=H h1;exact⟨h3,Int.le_trans h4 h2⟩
theorem xq:le2 r (tk bs n r).1:=fun h=>by
 have h0:=OX h;refine⟨h0,?_⟩;unfold tk at h ⊢;rw[if_pos h0]at h ⊢;split
 ·rename_i hgt;rw[if_pos hgt]at h;cases h
 ·simp only;omega
theorem xj:le2 r (bd w r):=fun h=>by
 obtain⟨h1,h2⟩:=Hn.1 h;refine⟨h1,?_⟩;unfold bd;rw[if_neg (fun e=>by rw[h2]at e;cases e.2)];exact Int.le_refl _
theorem AA{al d:List Int}:le2 r (tell dl room r al d).1:=fun h=>by
 unfold tell at h ⊢;split
 ·rename_i h0;rw[if_pos h0]at h;split
  ·rename_i hgt;rw[if_pos hgt]at h;cases h
  ·exact⟨h0,Int.le_refl _⟩
 ·rename_i h0;rw[if_neg h0]at h;exact absurd h h0
theorem wN{al d:List Int}(H:okR bs r):okR bs (tell dl room r al d).1:=by
 unfold tell;split
 ·split
  ·intro h;cases h
  ·exact H
 ·exact H
theorem Bg(H:okR bs r):okR bs (alg r):=by
 unfold alg;split
 ·rename_i h0;have:=H h0;intro _;simp only;omega
 ·exact H
theorem Ur:le2 r (alg r):=fun h=>by
 unfold alg at h ⊢;split
 ·rename_i h0;exact⟨h0,by simp only;omega⟩
 ·rename_i h0;rw[if_neg h0]at h;exact absurd h h0
theorem NY(h:(sy bs cs r).1.k=0):r.k=0/\r.i+1<=(sy bs cs r).1.i:=by
 unfold sy at h ⊢;by_cases h0:r.k=0
 ·rw[if_pos h0]at h ⊢;refine⟨h0,?_⟩;have hf:=wh (bs:=bs) (cs:=cs) (i:=r.i.toNat);simp only at h ⊢;rcases hf with hf | hf
  ·omega
  ·rcases hf.1 with e | e
   ·rw[e]at h;simp at h
   ·rw[e]at h;simp at h
 ·rw[if_neg h0]at h;exact absurd h h0
theorem FK:le2 r (sy bs cs r).1:=fun h=>by
 have:=NY h;exact⟨this.1,by omega⟩
theorem Zo:le2 r (cpF bs cd dl room sz r al s).1:=by
 have h3:le2 r (cp3 bs cd r s):=(xq.trans FK).trans xj;have h5:le2 r (cp5 bs cd sz r al s):=h3.trans (xq.trans xj);unfold cpF;split
 ·exact h3
 ·split
  ·exact h5
  ·exact h5.trans AA
theorem Zp(H:okR bs r):okR bs (cpF bs cd dl room sz r al s).1:=by
 have h3:okR bs (cp3 bs cd r s):=jC (qk (y7 H));have h5:okR bs (cp5 bs cd sz r al s):=jC (y7 h3);unfold cpF;split
 ·exact h3
 ·split
  ·exact h5
  ·exact wN h5
theorem KD:le2 r (sy1 bs cd dl room sz r al x).1:=by
 unfold sy1;split
 ·exact AA
 ·split
  ·exact xj
  ·exact Zo
theorem KE(H:okR bs r):okR bs (sy1 bs cd dl room sz r al x).1:=by
 unfold sy1;split
 ·exact wN H
 ·split
  ·exact jC H
  ·exact Zp H
theorem Us:∀ {n:Nat} {r:Rd} {al:List Int},okR bs r->okR bs (stL bs dl room n r al).1
 | 0,r,al,H=>H
 | n+1,r,al,H=>by
  unfold stL;split
  ·exact Us (wN (y7 H))
  ·exact H
theorem KF:∀ {n:Nat} {r:Rd} {al:List Int},le2 r (stL bs dl room n r al).1
 | 0,r,al=>le2.refl
 | n+1,r,al=>by
  unfold stL;split
  ·exact(xq.trans AA).trans KF
  ·exact le2.refl
end
section
def LB:Nat->Nat×Nat
 | 0=>(3,0)
 | j+1=>(if 0<j then(LB j).1+2^(LB j).2 else(LB j).1,if 8<=j then(j-4)/4 else 0)
theorem Zq:∀s:Fin 285,257<=s.1->LB (s.1-257+1)=yL s.1:=by decide +kernel
theorem zay:∀j:Fin 29,(LB j.1).1<=300/\(LB j.1).2<=6:=by decide +kernel
theorem Mc:∀s:Fin 286,257<=s.1->3<=(yL s.1).1/\(yL s.1).1<=258/\(yL s.1).2<=5:=by decide +kernel
theorem Md:∀d:Fin 30,1<=(yW d.1).1/\(yW d.1).1<=24577/\(yW d.1).2<=13:=by decide +kernel
theorem KG(hi:qaC S h)(s:Nat)(h1:257<=s)(h2:s<=285) :
  zb oPP S qK #[.int .i64 s] h (fun v h'=>v=.tuple #[.int .i64 (yL s).1,.int .i64 (yL s).2]/\h'=h):=by
 refine Iz (vs:=[.int .i64 s]) ⟨rfl,trivial⟩ hi ?_;simp only[DU,Tr.wp,z4,Ex.ev,coerce,toInt_int,za,xL,z9,arith,Cst.val,SV.den,zn,zL,zz,zk,zi,zy,zV,vF,vG,vA,vB,vC,List.getElem?_cons_succ,decide_eq_true_eq,decide_eq_false_iff_not,vD,vE,vI,vH,vJ,and_true,if_false,vK];refine⟨fun he=>?_,fun hne=>?_⟩
 ·obtain rfl:s=285:=by have:(s:Int)=285:=beq_iff_eq.1 he;omega
  exact rfl
 ·have hne:s≠285:=fun e=>by subst e;simp at hne
  refine⟨fun us h'=>∃j:Nat,us=[.int .i64 (LB j).1,.int .i64 (LB j).2,.int .i64 ((257+j:Nat):Int)]/\257+j<=s+1/\h'=h,fun us _=>600-(toInt (us.getD 2 undef)).toNat,⟨0,rfl,by omega,rfl⟩,?_⟩;rintro x y z h' ⟨j,hx,hj,rfl⟩;obtain⟨rfl,rfl,rfl⟩:x=(LB j).1/\y=(LB j).2/\z=((257+j:Nat):Int):=by simpa using hx
  have hb:=zay ⟨j,by omega⟩;simp only at hb;refine⟨fun hle=>?_,fun hgt=>?_⟩
  ·have w1:IntKind.i64.wrap (((257+j:Nat):Int)+1)=((257+(j+1):Nat):Int):=zr;have hj2:257+j<=s:=by omega
   have eE:(if((257+j:Nat):Int)>=265 then IntKind.i64.wrap ((IntKind.i64.wrap (((257+j:Nat):Int)-261)).tdiv 4)else 0)=((LB (j+1)).2:Int):=by
    simp only[LB];by_cases h8:8<=j
    ·rw[if_pos (by omega),if_pos h8,i64_in (((257+j:Nat):Int)-261) (by omega),Int.tdiv_eq_ediv_of_nonneg (by omega),i64_in _ (by omega)];omega
    ·rw[if_neg (by omega),if_neg h8];rfl
   rw[w1,eE];have hp:(2:Nat)^(LB j).2<=64:=Nat.le_trans (Nat.pow_le_pow_right (by decide) hb.2) (by decide);refine⟨fun hgt=>?_,fun hngt _=>?_⟩
   ·refine(jK hi _ (by omega) (by omega)).mono ?_;rintro _ h3 ⟨rfl,rfl⟩;rw[Int.toNat_natCast];refine⟨_,rfl,fun _=>⟨⟨j+1,?_,by omega,rfl⟩,by simp only[vB,vA,toInt_int];omega⟩⟩;have e1:(LB (j+1)).1=(LB j).1+2^(LB j).2:=by simp only[LB];rw[if_pos (by omega)]
    rw[e1,i64_in _ (by omega)];push_cast;rfl
   ·refine⟨⟨j+1,?_,by omega,rfl⟩,by simp only[vB,vA,toInt_int];omega⟩;have e1:(LB (j+1)).1=(LB j).1:=by simp only[LB];rw[if_neg (by omega)]
    rw[e1]
  ·obtain rfl:j=s-257+1:=by omega
   have:=Zq ⟨s,by omega⟩ h1;simp only at this;rw[this];exact⟨rfl,rfl⟩
theorem Pj(hi:qaC S h)(d:Nat)(h1:d<=29) :
  zb oPP S Af #[.int .i64 d] h (fun v h'=>v=.tuple #[.int .i64 (yW d).1,.int .i64 (yW d).2]/\h'=h):=by
 refine Kj (vs:=[.int .i64 d]) ⟨rfl,trivial⟩ hi ?_;simp only[Gi,Tr.wp,z4,Ex.ev,coerce,toInt_int,za,z9,arith,Cst.val,SV.den,zn,zL,zz,zk,zi,zy,vF,vG,vA,vB,decide_eq_true_eq,decide_eq_false_iff_not,vD,vE,vI,vH,vJ,and_true,if_false,vK];refine⟨fun hlt=>?_,fun hge=>?_⟩
 ·have e:yW d=(d+1,0):=by unfold yW;rw[if_pos (by omega)]
  rw[e,i64_in ((d:Int)+1) (by omega)]
  first | exact rfl | (push_cast;rfl)
 ·have e:yW d=((2+d%2)*2^(d/2-1)+1,d/2-1):=by unfold yW;rw[if_neg (by omega)]
  have w1:IntKind.i64.wrap (IntKind.i64.wrap ((d:Int).tdiv 2)-1)=((d/2-1:Nat):Int):=by
   rw[Int.tdiv_eq_ediv_of_nonneg (by omega),i64_in ((d:Int)/2) (by omega),i64_in _ (by omega)];omega
  have hp:(2:Nat)^(d/2-1)<=8192:=Nat.le_trans (Nat.pow_le_pow_right (by decide) (show d/2-1<=13 by omega)) (by decide);rw[w1];refine(jK hi _ (by omega) (by omega)).mono ?_;rintro _ h3 ⟨rfl,rfl⟩;rw[Int.toNat_natCast];have wm:(d:Int).tmod 2=((d%2:Nat):Int):=by rw[Int.tmod_eq_emod_of_nonneg (by omega)];omega
  have w2:IntKind.i64.wrap (2+((d%2:Nat):Int))=((2+d%2:Nat):Int):=zr;have hle:(2+d%2)*2^(d/2-1)<=24576:=by
   have:=Nat.mul_le_mul (show 2+d%2<=3 by omega) hp;omega
  have w3:IntKind.i64.wrap (((2+d%2:Nat):Int)*((2^(d/2-1):Nat):Int))=(((2+d%2)*2^(d/2-1):Nat):Int):=by
   rw[<-Int.natCast_mul];exact i64_in _ (by omega)
  rw[wm,w2,e];refine⟨_,rfl,?_,rfl⟩;rw[w3,i64_in ((((2+d%2)*2^(d/2-1):Nat):Int)+1) (by omega)]
  push_cast;rfl
def Eg(a:Option Addr)(c:Nat)(al:List Int)(dl sz room:Nat):Value:=.agg #[.slice a al.length c,.int .i64 dl,.int .i64 sz,.int .i64 room]
def BN(h0:qaA)(a:Option Addr)(c:Nat)(bs:List Int)(dl sz room:Nat)(F:Rd×List Int)(v:Value)(h':qaA):Prop:=
 ∃a' c',v=.tuple #[rdV a c bs F.1,Eg a' c' F.2 dl sz room]/\Part .u8 h' (.slice a' F.2.length c') F.2/\qaD h0 (.slice a' F.2.length c')/\qaB h0 h'
theorem Jo(hi:qaC S h0)(s:qaB h0 h)(a:Option Addr)(c:Nat)(bs:List Int)(r:Rd)(P:Part .u8 h (.slice aa al.length ca) al)(N:qaD h0 (.slice aa al.length ca))(hd:dl<=al.length)(hl:al.length<=2000000)(hr:room<=2000000)
  {cd:Nat}{d:List Int}(hx:zo h .u8 ad d)(hdl:d.length<=2000000) :
  zb oPP S qB #[rdV a c bs r,Eg aa ca al dl sz room,.slice ad d.length cd] h (BN h0 a c bs dl sz room (tell dl room r al d)):=by
 refine Kh (vs:=[.slice a bs.length c,.int .i64 r.i,.int .i64 r.k,.slice aa al.length ca,.int .i64 dl,.int .i64 sz,.int .i64 room,.slice ad d.length cd]) ⟨rfl,rfl,rfl,rfl,rfl,rfl,rfl,rfl,trivial⟩ (hi.sub s) ?_;simp only[Gg,Tr.wp,Ex.ev,coerce,toInt_int,za,zc,ze,zd,xg,xL,z9,arith,Cst.val,SV.den,vA,vB,vC,vD,vE,vI,vH,if_true];have w1:IntKind.i64.wrap ((al.length:Int)-dl)=((al.length-dl:Nat):Int):=zr;have w2:IntKind.i64.wrap (((al.length-dl:Nat):Int)+d.length)=((al.length-dl+d.length:Nat):Int):=zr;rw[w1,w2];by_cases h0k:r.k=0
 ·by_cases hroom:room<al.length-dl+d.length
  ·have et:tell dl room r al d=(⟨r.i,6⟩,al):=by unfold tell;rw[if_pos h0k,if_pos hroom]
   have ek:(if(decide ((r.k==0)=true)&&decide (((al.length-dl+d.length:Nat):Int)>(room:Int)))=true then 6 else r.k)=6:=by
    rw[if_pos];simp[h0k];omega
   rw[ek,et];exact⟨fun h=>by simp at h,fun _ _=>⟨aa,ca,rfl,P,N,s⟩⟩
  ·have et:tell dl room r al d=(r,al++d):=by unfold tell;rw[if_pos h0k,if_neg hroom]
   have ek:(if(decide ((r.k==0)=true)&&decide (((al.length-dl+d.length:Nat):Int)>(room:Int)))=true then 6 else r.k)=r.k:=by
    rw[if_neg];simp[h0k];omega
   rw[ek,et];refine⟨fun _=>?_,fun h=>by rw[h0k]at h;cases h⟩;refine yA hi s P N hx (by omega) fun v5 h5 o5 n5 s5 _ _ _=>?_
   obtain⟨a5,c5,rfl,_,_⟩:=o5.ints;exact⟨a5,c5,rfl,o5,n5,s5⟩
 ·have et:tell dl room r al d=(r,al):=by unfold tell;rw[if_neg h0k]
  have ek:(if(decide ((r.k==0)=true)&&decide (((al.length-dl+d.length:Nat):Int)>(room:Int)))=true then 6 else r.k)=r.k:=by
   rw[if_neg];simp[h0k]
  rw[ek,et];exact⟨fun h=>absurd (beq_iff_eq.1 h) h0k,fun _ _=>⟨aa,ca,rfl,P,N,s⟩⟩
theorem FL{al d:List Int}(h1:dl<=al.length)(h2:al.length<=dl+room):dl<=(tell dl room r al d).2.length/\(tell dl room r al d).2.length<=dl+room:=by
 unfold tell;split
 ·split
  ·exact⟨h1,h2⟩
  ·simp only[List.length_append];omega
 ·exact⟨h1,h2⟩
theorem Ss(hi:qaC S h0)(s:qaB h0 h)(hx:zo h0 .u8 a bs)(L:bs.length<=1048576)(r:Rd)(ok:okR bs r)(P:Part .u8 h (.slice aa al.length ca) al)(N:qaD h0 (.slice aa al.length ca))(hd:dl<=al.length)(hl:al.length<=dl+room)(hdl:dl<=40000)(hr:room<=100000) :
  zb oPP S AN #[rdV a c bs r,Eg aa ca al dl sz room] h (BN h0 a c bs dl sz room (stF bs dl room r al)):=by
 refine Iy (vs:=[.slice a bs.length c,.int .i64 r.i,.int .i64 r.k,.slice aa al.length ca,.int .i64 dl,.int .i64 sz,.int .i64 room]) ⟨rfl,rfl,rfl,rfl,rfl,rfl,rfl,trivial⟩ (hi.sub s) ?_;simp only[DT,Tr.wp,z4,Ex.ev,coerce,toInt_int,za,zc,ze,zd,xg,xL,z9,arith,Cst.val,SV.den,zn,zL,zz,zk,zi,zy,zV,vF,vG,vA,vB,vC,decide_eq_true_eq,vD,vE,vI,vH,vJ,List.length_cons,List.length_nil,Nat.zero_add,if_true,if_false,vK];have oka:=Bg ok;have ea:(Value.agg #[.slice a bs.length c,.int .i64 (if(r.k==0)=true then IntKind.i64.wrap (IntKind.i64.wrap ((IntKind.i64.wrap (r.i+7)).tdiv 8)*8)else r.i),.int .i64 r.k])=rdV a c bs (alg r):=by
  unfold alg;by_cases h0k:r.k=0
  ·have h8:=ok h0k;rw[if_pos h0k,if_pos (by simpa using h0k),i64_in (r.i+7) (by omega),Int.tdiv_eq_ediv_of_nonneg (by omega),i64_in ((r.i+7)/8) (by omega),i64_in _ (by omega),h0k];rfl
  ·rw[if_neg h0k,if_neg (by simpa using h0k)];rfl
 rw[ea];have n16:=yp (bs:=bs) (n:=16) (r:=alg r);have q16:(2:Int)^16=65536:=by decide
 refine(xD (hi.sub s) (hx.sub s) L (alg r) oka 16 (by omega)).mono ?_;rintro _ h1 ⟨rfl,rfl⟩;refine⟨_,_,_,_,_,_,rfl,?_⟩;refine(xD (hi.sub s) (hx.sub s) L (tk bs 16 (alg r)).1 (y7 oka) 16 (by omega)).mono ?_;rintro _ h1 ⟨rfl,rfl⟩;refine⟨_,_,_,_,_,_,rfl,?_⟩;have w1:IntKind.i64.wrap (65535-(tk bs 16 (alg r)).2)=65535-(tk bs 16 (alg r)).2:=i64_in _ (by omega);rw[w1];refine(xZ (hi.sub s) a c bs (tk bs 16 (tk bs 16 (alg r)).1).1 _).mono ?_;rintro _ h1 ⟨rfl,rfl⟩;refine⟨_,_,_,_,_,rfl,?_⟩;have okR3:okR bs (stR bs r):=jC (y7 (y7 oka));have eR:bd ((tk bs 16 (tk bs 16 (alg r)).1).2 != 65535-(tk bs 16 (alg r)).2) (tk bs 16 (tk bs 16 (alg r)).1).1=stR bs r:=rfl;obtain⟨n,hn⟩:∃n:Nat,n=(stN bs r).toNat:=⟨_,rfl⟩;have en:(tk bs 16 (alg r)).2=(n:Int):=by rw[hn];unfold stN;omega
 have hnl:n<65536:=by omega
 rw[eR,en];refine⟨fun us h'=>∃(j:Nat) (z:Int) (r':Rd) (al':List Int) (a':Option Addr) (c':Nat),us=[.int .i64 z,.int .i64 j,.slice a bs.length c,.int .i64 r'.i,.int .i64 r'.k,.slice a' al'.length c',.int .i64 dl,.int .i64 sz,.int .i64 room]/\j<=n/\okR bs r'/\Part .u8 h' (.slice a' al'.length c') al'/\qaD h0 (.slice a' al'.length c')/\qaB h0 h'/\(dl<=al'.length/\al'.length<=dl+room)/\stF bs dl room r al=stL bs dl room (n-j) r' al',
  fun us _=>n-(toInt (us.getD 1 undef)).toNat,⟨0,0,stR bs r,al,aa,ca,rfl,by omega,okR3,P,N,s,⟨hd,hl⟩,by rw[hn];rfl⟩,?_⟩
 rintro z y a1 l1 c1 i1 k1 a2 l2 c2 x4 x5 x6 h' ⟨j,z',r',al',a',c',hx1,hj,ok',P',N',s',hl',e'⟩;simp only[List.cons.injEq,Value.int.injEq,Value.slice.injEq,true_and,and_true]at hx1;obtain⟨rfl,rfl,⟨rfl,rfl,rfl⟩,rfl,rfl,⟨rfl,rfl,rfl⟩,rfl,rfl,rfl⟩:=hx1;rw[e'];refine⟨fun hlt=>?_,fun hge=>?_⟩
 ·have hlt:j<n/\r'.k=0:=by simp at hlt;omega
  have n8:=yp (bs:=bs) (n:=8) (r:=r');have q8:(2:Int)^8=256:=by decide
  refine(xD (hi.sub s') (hx.sub s') L r' ok' 8 (by omega)).mono ?_;rintro _ h2 ⟨rfl,rfl⟩;refine⟨_,_,_,_,_,_,rfl,fun b hb=>?_⟩;have wb:IntKind.u8.wrap (tk bs 8 r').2=(tk bs 8 r').2:=by rw[IntKind.wrap_u8];omega
  rw[wb];have sb:qaB h2 (upd h2 b (.cells (ints .u8 [(tk bs 8 r').2]) 5)):=Sub.zC hb;have K:=Jo (d:=[(tk bs 8 r').2]) (ad:=some ⟨b,0,none⟩) (cd:=1) (dl:=dl) (sz:=sz) (room:=room) hi (s'.trans sb) a1 c1 bs (tk bs 8 r').1 (P'.sub sb) N' hl'.1 (by omega) (by omega) zo.new (by simp);refine zb.mono K ?_;rintro _ h4 ⟨a4,c4,rfl,P4,N4,s4⟩;have el:stL bs dl room (n-j) r' al'=stL bs dl room (n-(j+1)) (tell dl room (tk bs 8 r').1 al' [(tk bs 8 r').2]).1 (tell dl room (tk bs 8 r').1 al' [(tk bs 8 r').2]).2:=by
   rw[show n-j=(n-(j+1))+1 by omega,stL,if_pos hlt.2]
  have wj:IntKind.i64.wrap ((j:Int)+1)=((j+1:Nat):Int):=zr;rw[wj];exact⟨_,_,_,_,_,_,_,_,_,_,_,rfl,⟨j+1,_,_,_,a4,c4,rfl,by omega,wN (y7 ok'),P4,N4,s4,FL hl'.1 hl'.2,el⟩,by simp only[vB,vA,toInt_int,Int.toNat_natCast];omega⟩
 ·have hge:¬(j<n/\r'.k=0):=by simp at hge;omega
  have el:stL bs dl room (n-j) r' al'=(r',al'):=by
   by_cases hjn:j<n
   ·rw[show n-j=(n-(j+1))+1 by omega,stL,if_neg (fun h=>hge ⟨hjn,h⟩)]
   ·rw[show n-j=0 by omega,stL]
  rw[el];exact⟨a2,c2,rfl,P',N',s'⟩
end
section
theorem KH:0<=(sy bs cs r).2/\((sy bs cs r).2=0\/(sy bs cs r).2<cs.length):=by
 have hf:=wh (bs:=bs) (cs:=cs) (i:=r.i.toNat);unfold sy;split
 ·simp only;omega
 ·exact⟨Int.le_refl _,.inl rfl⟩
theorem CO:(cpD al dist n).length=n:=by simp[cpD]
theorem Pk:cpD al dist (n+1)=cpD al dist n++[al.getD (al.length-dist+n%dist) 0]:=by simp[cpD,List.range_succ]
theorem Wf(hi:qaC S h0)(s0:qaB h0 h)(hx:zo h0 .u8 a bs)(L:bs.length<=1048576)(r:Rd)(ok:okR bs r)(P:Part .u8 h (.slice aa al.length ca) al)(N:qaD h0 (.slice aa al.length ca))(hd:dl<=al.length)(hl:al.length<=dl+room)(hdl:dl<=40000)(hr:room<=100000)(hsz:sz<=40000)
  (s:Nat)(hs1:257<=s)(hs2:s<=285){ac:Option Addr}{lc cc:Nat}(C:CodesAt h ac lc cd) :
  zb oPP S Cm #[rdV a c bs r,Eg aa ca al dl sz room,.int .i64 s,.slice ac lc cc] h (BN h0 a c bs dl sz room (cpF bs cd dl room sz r al s)):=by
 refine Ki (vs:=[.slice a bs.length c,.int .i64 r.i,.int .i64 r.k,.slice aa al.length ca,.int .i64 dl,.int .i64 sz,.int .i64 room,.int .i64 s,.slice ac lc cc]) ⟨rfl,rfl,rfl,rfl,rfl,rfl,rfl,rfl,rfl,trivial⟩ (hi.sub s0) ?_;simp only[Gh,Tr.wp,z4,Ex.ev,coerce,toInt_int,za,zc,ze,zd,zf,zM,jA,z9,arith,Cst.val,SV.den,zn,zL,zz,zk,zi,zy,zV,zq,vF,vG,vA,vB,vC,List.getElem?_cons_succ,decide_eq_true_eq,decide_eq_false_iff_not,vD,vE,vI,vH,vJ,List.length_cons,List.length_nil,Nat.zero_add,and_true,if_true,if_false,vK];have hxh:=hx.sub s0;have hlen:=Mc ⟨s,by omega⟩ hs1;simp only at hlen;have nn1:=yp (bs:=bs) (n:=(yL s).2) (r:=r);have hp5:(2:Int)^(yL s).2<=32:=by
  rw[yC];exact_mod_cast Nat.le_trans (Nat.pow_le_pow_right (by decide) hlen.2.2) (by decide)
 refine(KG (hi.sub s0) s hs1 hs2).mono ?_;rintro _ hq ⟨rfl,rfl⟩;refine⟨_,_,rfl,?_⟩;refine(xD (hi.sub s0) hxh L r ok (yL s).2 (by omega)).mono ?_;rintro _ hq ⟨rfl,rfl⟩;refine⟨_,_,_,_,_,_,rfl,?_⟩;have ok1:okR bs (cp1 bs r s).1:=y7 ok;refine(Mb (hi.sub s0) hxh L (cp1 bs r s).1 ok1 (fun _=>C)).mono ?_;rintro _ hq ⟨rfl,rfl⟩;refine⟨_,_,_,_,_,_,rfl,?_⟩;have ok2:okR bs (cp2 bs cd r s).1:=qk ok1;have n2:=KH (bs:=bs) (cs:=cd) (r:=(cp1 bs r s).1);refine(xZ (hi.sub s0) a c bs (cp2 bs cd r s).1 (decide ((sy bs cd (cp1 bs r s).1).2>29))).mono ?_;rintro _ hq ⟨rfl,rfl⟩;refine⟨_,_,_,_,_,rfl,?_⟩;have e3:bd (decide ((sy bs cd (cp1 bs r s).1).2>29)) (cp2 bs cd r s).1=cp3 bs cd r s:=rfl;rw[e3];have ok3:okR bs (cp3 bs cd r s):=jC ok2;refine⟨fun hne=>?_,fun heq=>?_⟩
 ·have hk:(cp3 bs cd r s).k≠0:=by simpa using hne
  have e:cpF bs cd dl room sz r al s=(cp3 bs cd r s,al):=if_pos hk;rw[e];exact⟨aa,ca,rfl,P,N,s0⟩
 have hk3:(cp3 bs cd r s).k=0:=by simpa using heq
 have hd29:(cp2 bs cd r s).2<=29:=by
  have:=(Hn.1 (show(bd (decide (29<(cp2 bs cd r s).2)) (cp2 bs cd r s).1).k=0 from hk3)).2;simpa using this
 have hd0:0<=(cp2 bs cd r s).2:=n2.1;obtain⟨d,hdd⟩:=Int.eq_ofNat_of_zero_le hd0;have ed:(sy bs cd (cp1 bs r s).1).2=(d:Int):=hdd;have hd29':d<=29:=by omega
 rw[ed];have hdis:=Md ⟨d,by omega⟩;simp only at hdis;refine(Pj (hi.sub s0) d hd29').mono ?_;rintro _ hq ⟨rfl,rfl⟩;refine⟨_,_,rfl,?_⟩;refine(xD (hi.sub s0) hxh L (cp3 bs cd r s) ok3 (yW d).2 (by omega)).mono ?_;rintro _ hq ⟨rfl,rfl⟩;refine⟨_,_,_,_,_,_,rfl,?_⟩;have e4:tk bs (yW d).2 (cp3 bs cd r s)=cp4 bs cd r s:=by unfold cp4;rw[hdd,Int.toNat_natCast]
 rw[e4];have n4:=yp (bs:=bs) (n:=(yW d).2) (r:=cp3 bs cd r s);rw[e4]at n4;have hp13:(2:Int)^(yW d).2<=8192:=by
  rw[yC];exact_mod_cast Nat.le_trans (Nat.pow_le_pow_right (by decide) hdis.2.2) (by decide)
 obtain⟨x4,hx4⟩:=Int.eq_ofNat_of_zero_le n4.1;obtain⟨x1,hx1⟩:=Int.eq_ofNat_of_zero_le (show 0<=(cp1 bs r s).2 from nn1.1);have hx1':(tk bs (yL s).2 r).2=(x1:Int):=hx1;have hdist:yE bs cd r s=(yW d).1+x4:=by unfold yE;rw[hdd,Int.toNat_natCast,hx4,Int.toNat_natCast]
 have hcl:jr bs r s=(yL s).1+x1:=by unfold jr;rw[hx1,Int.toNat_natCast]
 rw[hx4,hx1'];have wd:IntKind.i64.wrap (((yW d).1:Int)+(x4:Int))=((yE bs cd r s:Nat):Int):=by rw[hdist,i64_in _ (by omega)];omega
 have wl:IntKind.i64.wrap (((yL s).1:Int)+(x1:Int))=((jr bs r s:Nat):Int):=by rw[hcl,i64_in _ (by omega)];omega
 rw[wd,wl];have hdp:1<=yE bs cd r s/\yE bs cd r s<=40000:=by omega
 have hlp:jr bs r s<=400:=by omega
 have ew:(decide (((yE bs cd r s:Nat):Int)>(al.length:Int))||decide (((yE bs cd r s:Nat):Int)>(sz:Int)))=(decide (al.length<yE bs cd r s)||decide (sz<yE bs cd r s)):=by
  congr 1 <;> (rw[decide_eq_decide];omega)
 rw[ew];refine(xZ (hi.sub s0) a c bs (cp4 bs cd r s).1 _).mono ?_;rintro _ hq ⟨rfl,rfl⟩;refine⟨_,_,_,_,_,rfl,?_⟩;have e5:bd (decide (al.length<yE bs cd r s)||decide (sz<yE bs cd r s)) (cp4 bs cd r s).1=cp5 bs cd sz r al s:=rfl;rw[e5];refine⟨fun hne=>?_,fun heq b hb=>?_⟩
 ·have hk:(cp5 bs cd sz r al s).k≠0:=by simpa using hne
  have e:cpF bs cd dl room sz r al s=(cp5 bs cd sz r al s,al):=by unfold cpF;rw[if_neg (by omega),if_pos hk]
  rw[e];exact⟨aa,ca,rfl,P,N,s0⟩
 have hk5:(cp5 bs cd sz r al s).k=0:=by simpa using heq
 have hle:yE bs cd r s<=al.length:=by
  have:=(Hn.1 (show(bd (decide (al.length<yE bs cd r s)||decide (sz<yE bs cd r s)) (cp4 bs cd r s).1).k=0 from hk5)).2;simp at this;omega
 have e:cpF bs cd dl room sz r al s=tell dl room (cp5 bs cd sz r al s) al (cpD al (yE bs cd r s) (jr bs r s)):=by unfold cpF;rw[if_neg (by omega),if_neg (by omega)]
 rw[e];generalize yE bs cd r s=D at hdp hle ⊢;generalize jr bs r s=M at hlp ⊢;have sb:qaB hq (upd hq b (.cells (ints .u8 []) 5)):=Sub.zC hb;refine⟨fun us h'=>∃(j:Nat) (a':Option Addr) (c':Nat),us=[.slice a' (cpD al D j).length c',.int .i64 j]/\j<=M/\Part .u8 h' (.slice a' (cpD al D j).length c') (cpD al D j)/\qaD hq (.slice a' (cpD al D j).length c')/\qaB hq h',
  fun us _=>M-(toInt (us.getD 1 undef)).toNat,⟨0,some ⟨b,0,none⟩,0,rfl,by omega,(Own.made (k:=.u8) (h:=hq) (b:=b) (T:=5) []).part,New.of hb,sb⟩,?_⟩
 rintro a1 l1 c1 y h' ⟨j,a',c',hx1,hj,P',N',s'⟩;simp only[List.cons.injEq,Value.int.injEq,Value.slice.injEq,true_and,and_true]at hx1;obtain⟨⟨rfl,rfl,rfl⟩,rfl⟩:=hx1;refine⟨fun hlt=>?_,fun hge=>?_⟩
 ·have hmod:j%D<D:=Nat.mod_lt _ (by omega);have wm:(j:Int).tmod (D:Int)=((j%D:Nat):Int):=by rw[Int.tmod_eq_emod_of_nonneg (by omega)];exact(Int.natCast_emod j D).symm
  have w1:IntKind.i64.wrap ((al.length:Int)-D)=((al.length-D:Nat):Int):=zr;have w2:IntKind.i64.wrap (((al.length-D:Nat):Int)+((j%D:Nat):Int))=((al.length-D+j%D:Nat):Int):=zr;have wj:IntKind.i64.wrap ((j:Int)+1)=((j+1:Nat):Int):=zr;rw[wm,w1,w2,wj];obtain⟨_,_,ei,_,gi⟩:=(P.sub s').ints;cases ei
  have hidx:al.length-D+j%D<al.length:=by omega
  have g? : al[al.length-D+j%D]? = some (al.getD (al.length-D+j%D) 0):=by simp[List.getD,List.getElem?_eq_getElem hidx]
  obtain⟨g1,g2⟩:=gi.cell g?;refine⟨by simp;omega,by simpa using g2,by omega,by omega,_,by simp only[Int.toNat_natCast,Nat.mul_one,add_add,Nat.add_zero];exact g1,fun b' hb'=>?_⟩;have sb':qaB h' (upd h' b' (.cells (ints .u8 [al.getD (al.length-D+j%D) 0]) 5)):=Sub.zC hb';have hcl2:=CO (al:=al) (dist:=D) (n:=j);refine yA (ys:=[al.getD (al.length-D+j%D) 0]) (a:=some ⟨b',0,none⟩) (c:=1) (hi.sub s0) (s'.trans sb') (P'.sub sb') N' zo.new (by rw[hcl2];simp only[List.length_singleton];omega) fun v5 h5 o5 n5 s5 _ _=>?_
  rw[<-Pk]at o5;obtain⟨a5,c5,rfl,_,_⟩:=o5.ints;simp only[zd,zc,ze];exact⟨⟨j+1,a5,c5,rfl,by omega,o5,n5,s5⟩,by simp only[vB,vA,toInt_int,Int.toNat_natCast];omega⟩
 ·obtain rfl:j=M:=by omega
  obtain⟨_,_,ei,_,gi⟩:=P'.ints;cases ei
  have K:=Jo (dl:=dl) (sz:=sz) (room:=room) hi (s0.trans s') a c bs (cp5 bs cd sz r al s) (P.sub s') N hd (by omega) (by omega) gi (cd:=c1) (by rw[CO];omega);refine zb.mono K ?_;rintro _ h4 ⟨a4,c4,rfl,P4,N4,s4⟩;exact⟨_,_,_,_,_,_,_,_,_,_,_,rfl,⟨a4,c4,rfl,P4,N4,s4⟩⟩
theorem BA(h:r.k≠0):syF bs cl cd dl room sz f r al=(r,al):=by
 cases f with
 | zero=>rfl
 | succ f=>rw[syF,if_neg h]
theorem XX(h1:dl<=al.length)(h2:al.length<=dl+room):dl<=(cpF bs cd dl room sz r al s).2.length/\(cpF bs cd dl room sz r al s).2.length<=dl+room:=by
 unfold cpF;split
 ·exact⟨h1,h2⟩
 ·split
  ·exact⟨h1,h2⟩
  ·exact FL h1 h2
theorem Rb(h1:dl<=al.length)(h2:al.length<=dl+room):dl<=(sy1 bs cd dl room sz r al x).2.length/\(sy1 bs cd dl room sz r al x).2.length<=dl+room:=by
 unfold sy1;split
 ·exact FL h1 h2
 ·split
  ·exact⟨h1,h2⟩
  ·exact XX h1 h2
def xy(h:qaA)(v:Value):qaA:=fun b=>if zh v=some b then none else h b
theorem Ut:qaB (xy h v) h:=fun b o e=>by
 unfold xy at e;split at e
 ·cases e
 ·exact e
theorem Uu:qaD (xy h v) v:=fun b hb=>if_pos hb
theorem XY(N:qaD h0 v)(s:qaB h0 h):qaB h0 (xy h v):=fun b o e=>by
 unfold xy;rw[if_neg (fun hb=>by rw[N b hb]at e;cases e)];exact s b o e
theorem BN.base{F:Rd×List Int}(H:BN g a c bs dl sz room F v h')(s:qaB h0 g):BN h0 a c bs dl sz room F v h':=by
 obtain⟨a',c',e,p,n,t⟩:=H;exact⟨a',c',e,p,fun z hz=>ya s (n z hz),s.trans t⟩
theorem CodesAt.same{l c:Nat}(H:CodesAt h a l cs)(hk:∀z,zh (.slice a l c)=some z->h' z=h z):CodesAt h' a l cs:=by
 obtain⟨⟨ps,h1,h2⟩,h3,h4⟩:=H;refine⟨⟨ps,fun i p hp=>?_,h2⟩,h3,h4⟩;obtain⟨ad,rfl,g1,g2⟩:=h1 i p hp;have e:=hk ad.block rfl;have blk:∀n,(ad.add n).block=ad.block:=fun n=>by unfold Addr.add;split <;> rfl
 have hh:∀n,Eng.zj h' (ad.add n)=Eng.zj h (ad.add n):=fun n=>by
  unfold Eng.zj;rw[show h' (ad.add n).block=h (ad.add n).block by rw[blk];exact e]
 exact⟨ad,rfl,(hh _).trans g1,(hh _).trans g2⟩
theorem Q9(hi:qaC S h0)(s0:qaB h0 h)(hx:zo h0 .u8 a bs)(L:bs.length<=1048576)(r:Rd)(ok:okR bs r)(P:Part .u8 h (.slice aa al.length ca) al)(N:qaD h0 (.slice aa al.length ca))(hd:dl<=al.length)(hl:al.length<=dl+room)(hdl:dl<=40000)(hr:room<=100000)(hsz:sz<=40000)
  {u w:Value}(O1:tI.O h u xs)(O2:tI.O h w ys)(L1:Hk xs)(L2:Hk ys)(hg1:¬(zt xs=0\/zt xs=2))(hg2:¬(zt ys=0\/zt ys=2))(F0:Nat)(hF0:8*bs.length+1<=F0) :
  zb oPP S Ap #[rdV a c bs r,Eg aa ca al dl sz room,u,w] h (BN h0 a c bs dl sz room (syF bs (zl xs) (zl ys) dl room sz F0 r al)):=by
 obtain⟨a1,c1,rfl,_,_⟩:=Part.ints O1;obtain⟨a2,c2,rfl,_,_⟩:=Part.ints O2;refine GY (vs:=[.slice a bs.length c,.int .i64 r.i,.int .i64 r.k,.slice aa al.length ca,.int .i64 dl,.int .i64 sz,.int .i64 room,.slice a1 xs.length c1,.slice a2 ys.length c2]) ⟨rfl,rfl,rfl,rfl,rfl,rfl,rfl,rfl,rfl,trivial⟩ (hi.sub s0) ?_;simp only[Dm,Tr.wp,z4,Ex.ev,coerce,toInt_int,za,zc,ze,zd,jA,z9,Cst.val,SV.den,zn,zL,zz,zk,zi,zy,zV,vF,vG,vA,vB,vC,List.getElem?_cons_succ,decide_eq_true_eq,decide_eq_false_iff_not,vD,vE,vI,vH,vJ,List.length_cons,List.length_nil,Nat.zero_add,if_true,if_false,vK];refine(xY (hi.sub s0) O1 L1).mono ?_;rintro v3 h3 ⟨OC,NC,s3⟩;obtain⟨a3,c3,rfl,C1⟩:=B8 OC hg1;have el1:(y8 xs).length=xs.length:=by simp only[y8,if_neg hg1];exact kC
 refine⟨_,_,_,rfl,?_⟩;refine(xY (hi.sub (s0.trans s3)) (Ty.kN O2 s3) L2).mono ?_;rintro v4 h4 ⟨OC2,NC2,s4⟩;obtain⟨a4,c4,rfl,C2⟩:=B8 OC2 hg2;refine⟨_,_,_,rfl,?_⟩;have s34:=s3.trans s4;have C1':=C1.sub s4;have P4:=P.sub s34;obtain⟨g,hg⟩:∃g,g=xy h4 (.slice aa al.length ca):=⟨_,rfl⟩;have sg:qaB h0 g:=hg▸XY N (s0.trans s34);have g4:qaB g h4:=hg▸Ut;have Ng:qaD g (.slice aa al.length ca):=hg▸Uu;have Cg1:CodesAt g a3 xs.length (zl xs):=by
  rw[hg];refine C1'.same (c:=c3) fun z hz=>if_neg fun hz2=>?_
  exact tB.Oheld P (show tB.B _ z from hz2) (NC z (by rw[show Cc.B (.slice a3 xs.length c3) z=(zh (.slice a3 xs.length c3)=some z) from rfl];exact hz))
 have Cg2:CodesAt g a4 ys.length (zl ys):=by
  rw[hg];refine C2.same (c:=c4) fun z hz=>if_neg fun hz2=>?_
  exact tB.Oheld (P.sub s3) (show tB.B _ z from hz2) (NC2 z (by rw[show Cc.B (.slice a4 ys.length c4) z=(zh (.slice a4 ys.length c4)=some z) from rfl];exact hz))
 have hi0:=hi;have hx0:=hx;replace hi:=hi0.sub sg;replace hx:=hx0.sub sg;refine⟨fun us h'=>∃(r':Rd) (al':List Int) (a':Option Addr) (c' f:Nat),us=[.slice a bs.length c,.int .i64 r'.i,.int .i64 r'.k,.slice a' al'.length c',.int .i64 dl,.int .i64 sz,.int .i64 room]/\okR bs r'/\Part .u8 h' (.slice a' al'.length c') al'/\qaD g (.slice a' al'.length c')/\qaB g h'/\(dl<=al'.length/\al'.length<=dl+room)/\(r'.k=0->8*(bs.length:Int)+1<=r'.i+f)/\syF bs (zl xs) (zl ys) dl room sz F0 r al=syF bs (zl xs) (zl ys) dl room sz f r' al',
  fun us _=>if toInt (us.getD 2 undef)=0 then(8*(bs.length:Int)+1-toInt (us.getD 1 undef)).toNat+1 else 0,⟨r,al,aa,ca,F0,rfl,ok,P4,Ng,g4,⟨hd,hl⟩,fun hk=>by have:=ok hk;omega,rfl⟩,?_⟩
 rintro b1 m1 d1 i1 k1 b2 m2 d2 x4 x5 x6 h' ⟨r',al',a',c',f,hx1,ok',P',N',s',hl',hf,e'⟩;simp only[List.cons.injEq,Value.int.injEq,Value.slice.injEq,true_and,and_true]at hx1;obtain⟨⟨rfl,rfl,rfl⟩,rfl,rfl,⟨rfl,rfl,rfl⟩,rfl,rfl,rfl⟩:=hx1;rw[e'];refine⟨fun hk=>?_,fun hk=>?_⟩
 ·have hk:r'.k=0:=beq_iff_eq.1 hk;have hpos:=ok' hk;obtain⟨f',rfl⟩:∃f',f=f'+1:=⟨f-1,by have:=hf hk;omega⟩;have est:syF bs (zl xs) (zl ys) dl room sz (f'+1) r' al'=(if(sy bs (zl xs) r').1.k≠0\/(sy bs (zl xs) r').2=256 then((sy bs (zl xs) r').1,al')else syF bs (zl xs) (zl ys) dl room sz f' (sy1 bs (zl ys) dl room sz (sy bs (zl xs) r').1 al' (sy bs (zl xs) r').2).1 (sy1 bs (zl ys) dl room sz (sy bs (zl xs) r').1 al' (sy bs (zl xs) r').2).2):=by rw[syF,if_pos hk]
  refine(Mb (hi.sub s') (hx.sub s') L r' ok' (fun _=>Cg1.sub s')).mono ?_;rintro _ h2 ⟨rfl,rfl⟩;refine⟨_,_,_,_,_,_,rfl,?_⟩;have oks:okR bs (sy bs (zl xs) r').1:=qk ok';have lts:(sy bs (zl xs) r').1.k=0->r'.k=0/\r'.i+1<=(sy bs (zl xs) r').1.i:=NY;have nns:=KH (bs:=bs) (cs:=zl xs) (r:=r');rw[xA]at nns;generalize sy bs (zl xs) r'=q at est oks lts nns ⊢;obtain⟨r1,x⟩:=q;simp only at est oks lts nns ⊢;refine⟨fun hstop=>?_,fun hgo=>?_⟩
  ·have hst:r1.k≠0\/x=256:=by simpa using hstop
   rw[est,if_pos hst];exact BN.base ⟨b2,d2,rfl,P',N',s'⟩ sg
  ·have hst:¬(r1.k≠0\/x=256):=by simpa using hgo
   rw[if_neg hst]at est;have hk1:r1.k=0:=by omega
   have hx256:x≠256:=by omega
   have fin:∀(h'':qaA) (a5:Option Addr) (c5:Nat),Part .u8 h'' (.slice a5 (sy1 bs (zl ys) dl room sz r1 al' x).2.length c5) (sy1 bs (zl ys) dl room sz r1 al' x).2->qaD g (.slice a5 (sy1 bs (zl ys) dl room sz r1 al' x).2.length c5)->qaB g h'' ->
     (∃(r2:Rd) (al2:List Int) (a':Option Addr) (c' f:Nat),[Value.slice b1 bs.length d1,.int .i64 (sy1 bs (zl ys) dl room sz r1 al' x).1.i,.int .i64 (sy1 bs (zl ys) dl room sz r1 al' x).1.k,.slice a5 (sy1 bs (zl ys) dl room sz r1 al' x).2.length c5,.int .i64 dl,.int .i64 sz,.int .i64 room]=[.slice b1 bs.length d1,.int .i64 r2.i,.int .i64 r2.k,.slice a' al2.length c',.int .i64 dl,.int .i64 sz,.int .i64 room]/\okR bs r2/\Part .u8 h'' (.slice a' al2.length c') al2/\qaD g (.slice a' al2.length c')/\qaB g h''/\(dl<=al2.length/\al2.length<=dl+room)/\(r2.k=0->8*(bs.length:Int)+1<=r2.i+f)/\syF bs (zl xs) (zl ys) dl room sz (f'+1) r' al'=syF bs (zl xs) (zl ys) dl room sz f r2 al2) /\
     (if(sy1 bs (zl ys) dl room sz r1 al' x).1.k=0 then(8*(bs.length:Int)+1-(sy1 bs (zl ys) dl room sz r1 al' x).1.i).toNat+1 else 0)<(if r'.k=0 then(8*(bs.length:Int)+1-r'.i).toNat+1 else 0):=by
    intro h'' a5 c5 Q1 Q2 Q3;have hle:le2 r1 (sy1 bs (zl ys) dl room sz r1 al' x).1:=KD;have hl1:=(lts hk1).2;refine⟨⟨_,_,a5,c5,f',rfl,KE oks,Q1,Q2,Q3,Rb hl'.1 hl'.2,fun h=>?_,est⟩,?_⟩
    ·have:=(hle h).2;have:=hf hk;push_cast at this;omega
    ·rw[if_pos hk];split
     ·rename_i h;have:=(hle h).2;omega
     ·omega
   refine⟨fun hlt b hb=>?_,fun hge=>⟨fun hgt=>?_,fun hle=>?_⟩⟩
   ·have e1:sy1 bs (zl ys) dl room sz r1 al' x=tell dl room r1 al' [x]:=if_pos hlt;have wb:IntKind.u8.wrap x=x:=by rw[IntKind.wrap_u8];omega
    rw[wb];have sb:qaB h2 (upd h2 b (.cells (ints .u8 [x]) 5)):=Sub.zC hb;have K:=Jo (d:=[x]) (ad:=some ⟨b,0,none⟩) (cd:=1) (dl:=dl) (sz:=sz) (room:=room) hi (s'.trans sb) b1 d1 bs r1 (P'.sub sb) N' hl'.1 (by omega) (by omega) zo.new (by simp);rw[<-e1]at K;refine zb.mono K ?_;rintro _ h4 ⟨a4,c4,rfl,P4,N4,s4⟩;exact⟨_,_,_,_,_,_,_,_,_,_,_,rfl,fun _=>fin h4 a4 c4 P4 N4 s4⟩
   ·have e1:sy1 bs (zl ys) dl room sz r1 al' x=(bd true r1,al'):=by unfold sy1;rw[if_neg (by omega),if_pos (by omega)]
    rw[e1]at fin;refine(xZ (hi.sub s') b1 d1 bs r1 true).mono ?_;rintro _ h3 ⟨rfl,rfl⟩;exact⟨_,_,_,_,_,rfl,fun _ _=>fin _ b2 d2 P' N' s'⟩
   ·have e1:sy1 bs (zl ys) dl room sz r1 al' x=cpF bs (zl ys) dl room sz r1 al' x.toNat:=by unfold sy1;rw[if_neg (by omega),if_neg (by omega)]
    obtain⟨m,rfl⟩:=Int.eq_ofNat_of_zero_le (show 0<=x by omega);have K:=Wf (c:=d1) (dl:=dl) (sz:=sz) (room:=room) hi s' hx L r1 oks P' N' hl'.1 hl'.2 hdl hr hsz m (by omega) (by omega) (cc:=c4) (Cg2.sub s');rw[show m=((m:Int)).toNat from rfl,<-e1]at K;refine zb.mono K ?_;rintro _ h4 ⟨a4,c4,rfl,P4,N4,s4⟩;exact⟨_,_,_,_,_,_,_,_,_,_,_,rfl,fun _ _=>fin h4 a4 c4 P4 N4 s4⟩
 ·have hk:r'.k≠0:=by simpa using hk
  rw[BA hk];exact BN.base ⟨b2,d2,rfl,P',N',s'⟩ sg
end
section
theorem Rc{bs:List Int}{cs:List (Nat×Nat)}{tot:Nat}:∀ {n:Nat} {r:Rd} {all:List Int},tot-all.length<=n->all.length<=tot->(lg bs cs tot r all).1.k=0->(lg bs cs tot r all).2.length<=tot
 | 0,r,all,hn,hl,H=>by rw[yU (fun e=>by omega)];exact hl
 | n+1,r,all,hn,hl,H=>by
  by_cases h:r.k=0/\all.length<tot
  ·rw[A9 h]at H ⊢;by_cases hk:(lg1 bs cs tot r all).1.k=0
   ·have:=(A8 (bs:=bs) (cs:=cs) (tot:=tot) (r:=r) (all:=all)).2.2 hk;exact Rc (n:=n) (by omega) this.2 H
   ·rw[yU (fun e=>hk e.1)]at H;exact absurd H hk
  ·rw[yU h];exact hl
theorem KI:(zN bs r).2.1.length<=1000/\(zN bs r).2.2.length<=1000:=by
 unfold zN;split
 ·rename_i hk;have n1:=yp (bs:=bs) (n:=5) (r:=r);have n2:=yp (bs:=bs) (n:=5) (r:=yJ bs r);have q5:(2:Int)^5=32:=by decide
  have h1:w7 bs r<=288:=by unfold w7;omega
  have h2:Bd bs r<=32:=by unfold Bd;omega
  have h3:(xi bs r).2.length<=w7 bs r+Bd bs r:=Rc (Nat.le_refl _) (by simp) hk;simp only[List.length_take,List.length_drop];omega
 ·simp
theorem AB(ok:okR bs r):okR bs (zN bs r).1:=by
 have:=(Fg ok).2.2.2.2;unfold zN;split
 ·exact jC this
 ·exact this
section
theorem Me:∀ {n:Nat} {r:Rd} {al:List Int},dl<=al.length->al.length<=dl+room->dl<=(stL bs dl room n r al).2.length/\(stL bs dl room n r al).2.length<=dl+room
 | 0,r,al,h1,h2=>⟨h1,h2⟩
 | n+1,r,al,h1,h2=>by
  unfold stL;split
  ·have:=FL (r:=(tk bs 8 r).1) (d:=[(tk bs 8 r).2]) h1 h2;exact Me this.1 this.2
  ·exact⟨h1,h2⟩
theorem Mf{cl cd:List (Nat×Nat)}:∀ {f:Nat} {r:Rd} {al:List Int},dl<=al.length->al.length<=dl+room->dl<=(syF bs cl cd dl room sz f r al).2.length/\(syF bs cl cd dl room sz f r al).2.length<=dl+room
 | 0,r,al,h1,h2=>⟨h1,h2⟩
 | f+1,r,al,h1,h2=>by
  unfold syF;split
  ·split
   ·exact⟨h1,h2⟩
   ·have:=Rb (bs:=bs) (cd:=cd) (sz:=sz) (r:=(sy bs cl r).1) (x:=(sy bs cl r).2) h1 h2;exact Mf this.1 this.2
  ·exact⟨h1,h2⟩
theorem Fh:∀ {f:Nat} {r:Rd} {al:List Int},le2 r (syF bs cl cd dl room sz f r al).1
 | 0,r,al=>le2.refl
 | f+1,r,al=>by
  unfold syF;split
  ·split
   ·exact FK
   ·exact(FK.trans KD).trans Fh
  ·exact le2.refl
theorem Pl:∀ {f:Nat} {r:Rd} {al:List Int},okR bs r->okR bs (syF bs cl cd dl room sz f r al).1
 | 0,r,al,H=>H
 | f+1,r,al,H=>by
  unfold syF;split
  ·split
   ·exact qk H
   ·exact Pl (KE (qk H))
  ·exact H
theorem NZ:∀ {k:Nat},le2 r (sm bs r k).1
 | 0=>le2.refl
 | k+1=>NZ.trans xq
theorem WY:le2 r (rp bs r all x).1:=by
 unfold rp;split
 ·exact xj.trans xq
 ·split
  ·exact xq
  ·split
   ·exact xq
   ·exact le2.refl
theorem Uv{tot:Nat}:le2 r (lg1 bs cs tot r all).1:=by
 unfold lg1;split
 ·exact(FK.trans WY).trans xj
 ·exact FK
theorem Oa{cs:List (Nat×Nat)}{tot:Nat}:∀ {n:Nat} {r:Rd} {all:List Int},tot-all.length<=n->le2 r (lg bs cs tot r all).1
 | 0,r,all,hn=>by rw[yU (fun e=>by omega)];exact le2.refl
 | n+1,r,all,hn=>by
  by_cases h:r.k=0/\all.length<tot
  ·rw[A9 h];by_cases hk:(lg1 bs cs tot r all).1.k=0
   ·have:=(A8 (bs:=bs) (cs:=cs) (tot:=tot) (r:=r) (all:=all)).2.2 hk;exact Uv.trans (Oa (n:=n) (by omega))
   ·rw[yU (fun e=>hk e.1)];exact Uv
  ·rw[yU h];exact le2.refl
theorem FM:le2 r (zN bs r).1:=by
 have h0:le2 r (yJ bs r):=xq.trans xj;have h1:le2 r (y9 bs r):=h0.trans (xq.trans xj);have h2:le2 r (yv bs r).1:=h1.trans (xq.trans NZ);have h3:le2 r (jT bs r):=h2.trans xj;have h4:le2 r (xi bs r).1:=h3.trans (Oa (Nat.le_refl _));unfold zN;split
 ·exact h4.trans xj
 ·exact h4
theorem KJ(h:(zN bs r).1.k=0):¬(zt (zN bs r).2.1=0\/zt (zN bs r).2.1=2)/\¬(zt (zN bs r).2.2=0\/zt (zN bs r).2.2=2):=by
 unfold zN at h ⊢;split
 ·rename_i hk;rw[if_pos hk]at h;have hb:=(Hn.1 h).2;simp only;unfold FG at hb;simp only[Bool.or_eq_false_iff,Bool.not_eq_false',Bool.or_eq_true,beq_iff_eq]at hb;omega
 ·rename_i hk;rw[if_neg hk]at h;exact absurd h hk
end
def kU:List Int:=List.replicate 32 5
theorem Hv:zt kU=1:=by decide +kernel
def bk1(bs:List Int)(r:Rd):Rd×Int:=tk bs 1 r
def bk2(bs:List Int)(r:Rd):Rd×Int:=tk bs 2 (bk1 bs r).1
def bk3(bs:List Int)(r:Rd):Rd:=bd ((bk2 bs r).2==3) (bk2 bs r).1
def blk(bs:List Int)(dl room sz F:Nat)(r:Rd)(al:List Int):Rd×List Int:=
 if(bk3 bs r).k≠0 then(bk3 bs r,al)
 else if(bk2 bs r).2=0 then stF bs dl room (bk3 bs r) al
 else if(bk2 bs r).2=1 then syF bs (zl yV) (zl kU) dl room sz F (bk3 bs r) al
 else if(zN bs (bk3 bs r)).1.k≠0 then((zN bs (bk3 bs r)).1,al)
 else syF bs (zl (zN bs (bk3 bs r)).2.1) (zl (zN bs (bk3 bs r)).2.2) dl room sz F (zN bs (bk3 bs r)).1 al
def blF(bs:List Int)(dl room sz F:Nat):Nat->Rd->List Int->Rd×List Int
 | 0,r,al=>(r,al)
 | f+1,r,al=>if r.k=0 then(if(bk1 bs r).2≠0 then blk bs dl room sz F r al else blF bs dl room sz F f (blk bs dl room sz F r al).1 (blk bs dl room sz F r al).2)else(r,al)
section
theorem Uw(h:(tk bs n r).1.k=0):(tk bs n r).1.i=r.i+n:=by
 have h0:=OX h;unfold tk at h ⊢;rw[if_pos h0]at h ⊢;split
 ·rename_i hgt;rw[if_pos hgt]at h;cases h
 ·rfl
theorem KL(h:(bk3 bs r).k=0):r.k=0/\r.i+3<=(bk3 bs r).i:=by
 have h3:=xj (w:=(bk2 bs r).2==3) (r:=(bk2 bs r).1) h;have h2:=Uw (bs:=bs) (n:=2) (r:=(bk1 bs r).1) h3.1;have h1:=OX (bs:=bs) (n:=2) (r:=(bk1 bs r).1) h3.1;have h0:=Uw (bs:=bs) (n:=1) (r:=r) h1;refine⟨OX h1,?_⟩;have e1:(bk2 bs r).1.i=(bk1 bs r).1.i+2:=h2;have e0:(bk1 bs r).1.i=r.i+1:=h0;have e3:(bk2 bs r).1.i<=(bk3 bs r).i:=h3.2;omega
theorem Zr:le2 r (stF bs dl room r al).1:=(((Ur.trans xq).trans xq).trans xj).trans KF
theorem Ux(H:okR bs r):okR bs (stF bs dl room r al).1:=Us (jC (y7 (y7 (Bg H))))
theorem KM:le2 (bk3 bs r) (blk bs dl room sz F r al).1:=by
 unfold blk;split
 ·exact le2.refl
 ·split
  ·exact Zr
  ·split
   ·exact Fh
   ·split
    ·exact FM
    ·exact FM.trans Fh
theorem KN(H:okR bs r):okR bs (bk3 bs r):=jC (y7 (y7 H))
theorem Hw(H:okR bs r):okR bs (blk bs dl room sz F r al).1:=by
 have h3:=KN H;unfold blk;split
 ·exact h3
 ·split
  ·exact Ux h3
  ·split
   ·exact Pl h3
   ·split
    ·exact AB h3
    ·exact Pl (AB h3)
theorem Re(h1:dl<=al.length)(h2:al.length<=dl+room):dl<=(blk bs dl room sz F r al).2.length/\(blk bs dl room sz F r al).2.length<=dl+room:=by
 unfold blk;split
 ·exact⟨h1,h2⟩
 ·split
  ·exact Me h1 h2
  ·split
   ·exact Mf h1 h2
   ·split
    ·exact⟨h1,h2⟩
    ·exact Mf h1 h2
theorem BB(h:r.k≠0):blF bs dl room sz F f r al=(r,al):=by
 cases f with
 | zero=>rfl
 | succ f=>rw[blF,if_neg h]
end
end
section
section
theorem WZ(hi:qaC S h0)(s0:qaB h0 h)(hx:zo h0 .u8 a bs)(L:bs.length<=1048576)(r:Rd)(ok:okR bs r)(P:Part .u8 h (.slice aa al.length ca) al)(N:qaD h0 (.slice aa al.length ca))(hd:dl<=al.length)(hl:al.length<=dl+room)(hdl:dl<=40000)(hr:room<=100000)(hsz:sz<=40000)
  (F:Nat)(hF:8*bs.length+1<=F){l1 c1 l2 c2:Nat}(hO:r.k=0->Part .i64 h (.slice a1 l1 c1) xs/\Part .i64 h (.slice a2 l2 c2) ys/\Hk xs/\Hk ys/\¬(zt xs=0\/zt xs=2)/\¬(zt ys=0\/zt ys=2))(K0 K1 K2:Kt)
  (hK:∀a' c' h',Part .u8 h' (.slice a' (if r.k=0 then syF bs (zl xs) (zl ys) dl room sz F r al else(r,al)).2.length c') (if r.k=0 then syF bs (zl xs) (zl ys) dl room sz F r al else(r,al)).2->qaD h0 (.slice a' (if r.k=0 then syF bs (zl xs) (zl ys) dl room sz F r al else(r,al)).2.length c')->qaB h0 h' ->
   K2 [.slice a bs.length c,.int .i64 (if r.k=0 then syF bs (zl xs) (zl ys) dl room sz F r al else(r,al)).1.i,.int .i64 (if r.k=0 then syF bs (zl xs) (zl ys) dl room sz F r al else(r,al)).1.k,.slice a' (if r.k=0 then syF bs (zl xs) (zl ys) dl room sz F r al else(r,al)).2.length c',.int .i64 dl,.int .i64 sz,.int .i64 room] h')
  {Q:Value->qaA->Prop}(e0 e1 e2 e3 e4 e5 e6 e7 e8 e9 e10 e11 e12 e13 e14 e15 e16 e17 e18 e19 e20 e21 e22 e23 e24 e25 e26 e27 e28 e29 e34 e35:Value) :
  bl4.wp oPP S yb Q [e0,e1,e2,e3,e4,e5,e6,e7,e8,e9,e10,e11,e12,e13,e14,e15,e16,e17,e18,e19,e20,e21,e22,e23,e24,e25,e26,e27,e28,e29,.slice aa al.length ca,.int .i64 dl,.int .i64 sz,.int .i64 room,e34,e35,.slice a1 l1 c1,.slice a2 l2 c2,.slice a bs.length c,.int .i64 r.i,.int .i64 r.k] h [K0,K1,K2]:=by
 simp only[bl4,Tr.wp,z4,Ex.ev,coerce,toInt_int,za,zc,ze,zd,z9,Cst.val,SV.den,zn,zL,zz,zk,zi,zy,vF,vG,vA,vB,vC,List.getElem?_cons_succ,vD,vE,vI,vH,vJ,List.length_cons,List.length_nil,Nat.zero_add,if_true];refine⟨fun hk=>?_,fun hk _=>?_⟩
 ·have hk:r.k=0:=beq_iff_eq.1 hk;obtain⟨O1,O2,L1,L2,g1,g2⟩:=hO hk;simp only[if_pos hk]at hK;refine zb.mono (Q9 hi s0 hx L r ok P N hd hl hdl hr hsz O1 O2 L1 L2 g1 g2 F hF (c:=c)) ?_;rintro _ h4 ⟨a4,c4,rfl,P4,N4,s4⟩;exact⟨_,_,_,_,_,_,_,_,_,_,_,rfl,fun _=>hK a4 c4 h4 P4 N4 s4⟩
 ·have hk:r.k≠0:=by simpa using hk
  simp only[if_neg hk]at hK;exact hK aa ca h P N s0
def Cw(bs:List Int)(dl room sz F:Nat)(r:Rd)(kd:Int)(al:List Int):Rd×List Int:=
 if r.k=0/\0<kd then
  (if kd=2 then(if(zN bs r).1.k=0 then syF bs (zl (zN bs r).2.1) (zl (zN bs r).2.2) dl room sz F (zN bs r).1 al else((zN bs r).1,al))else(if r.k=0 then syF bs (zl yV) (zl kU) dl room sz F r al else(r,al)))
 else(r,al)
theorem Xa(hi:qaC S h0)(s0:qaB h0 h)(hx:zo h0 .u8 a bs)(L:bs.length<=1048576)(r:Rd)(ok:okR bs r)(P:Part .u8 h (.slice aa al.length ca) al)(N:qaD h0 (.slice aa al.length ca))(hd:dl<=al.length)(hl:al.length<=dl+room)(hdl:dl<=40000)(hr:room<=100000)(hsz:sz<=40000)
  (F:Nat)(hF:8*bs.length+1<=F)(kd ls:Int)(K0 K1:Kt)
  (hK:∀a' c' h',Part .u8 h' (.slice a' (Cw bs dl room sz F r kd al).2.length c') (Cw bs dl room sz F r kd al).2->qaD h0 (.slice a' (Cw bs dl room sz F r kd al).2.length c')->qaB h0 h' ->
   K0 [.int .i64 ls,.int .i64 kd,.slice a bs.length c,.int .i64 (Cw bs dl room sz F r kd al).1.i,.int .i64 (Cw bs dl room sz F r kd al).1.k,.slice a' (Cw bs dl room sz F r kd al).2.length c',.int .i64 dl,.int .i64 sz,.int .i64 room] h')
  {Q:Value->qaA->Prop}(e0 e1 e2 e3 e4 e5 e6 e7 e8 e9 e10 e11 e12 e13 e14 e15 e16 e17 e18 e20 e21 e22 e24 e25 e26:Value) :
  bl2.wp oPP S yb Q [e0,e1,e2,e3,e4,e5,e6,e7,e8,e9,e10,e11,e12,e13,e14,e15,e16,e17,e18,.int .i64 ls,e20,e21,e22,.int .i64 kd,e24,e25,e26,.slice a bs.length c,.int .i64 r.i,.int .i64 r.k,.slice aa al.length ca,.int .i64 dl,.int .i64 sz,.int .i64 room] h [K0,K1]:=by
 simp only[bl2,Tr.wp,z4,Ex.ev,coerce,toInt_int,za,zc,ze,zd,xg,z9,Cst.val,SV.den,zn,zL,zz,zk,zi,zy,vF,vG,vA,vB,vC,List.getElem?_cons_succ,vD,vE,vI,vH,vJ,List.length_cons,List.length_nil,Nat.zero_add,if_true,if_false,vK];refine⟨fun hc=>?_,fun hc _=>?_⟩
 ·have hc:r.k=0/\0<kd:=by simpa using hc
  have eF:Cw bs dl room sz F r kd al=(if kd=2 then(if(zN bs r).1.k=0 then syF bs (zl (zN bs r).2.1) (zl (zN bs r).2.2) dl room sz F (zN bs r).1 al else((zN bs r).1,al))else(if r.k=0 then syF bs (zl yV) (zl kU) dl room sz F r al else(r,al))):=if_pos hc;rw[eF]at hK;refine(Nb (hi.sub s0)).mono ?_;rintro _ h1 ⟨a1,c1,a2,c2,rfl,P1,P2,N1,N2,s1⟩;refine⟨_,_,_,_,_,_,rfl,fun h2=>?_,fun h2 _=>?_⟩
  ·have h2:kd=2:=beq_iff_eq.1 h2;rw[if_pos h2]at hK;have okF:=AB ok;have good:=KJ (bs:=bs) (r:=r);obtain⟨lenA,yL⟩:=KI (bs:=bs) (r:=r);refine(VV (hi.sub (s0.trans s1)) (hx.sub (s0.trans s1)) L r ok).mono ?_;generalize zN bs r=G at hK okF good lenA yL ⊢;rintro _ h3 ⟨u,w,rfl,hP,⟨a3,l3,c3,a4,l4,c4,rfl,rfl⟩,s3⟩;refine⟨_,_,_,_,_,_,_,_,_,_,_,rfl,fun _=>?_⟩;exact WZ (c:=c) hi (s0.trans (s1.trans s3)) hx L G.1 okF (P.sub (s1.trans s3)) N hd hl hdl hr hsz F hF (xs:=G.2.1) (ys:=G.2.2) (fun hk=>by
    obtain⟨p1,p2,_,_⟩:=hP hk
    obtain⟨g1,g2⟩:=good hk
    exact⟨p1,p2,Nat.le_trans lenA (by decide),Nat.le_trans yL (by decide),g1,g2⟩) _ _ _ (fun a' c' h' q1 q2 q3=>fun _=>hK a' c' h' q1 q2 q3) _ _ _ _ _ _ _ _ _ _ _ _ _ _ _ _ _ _ _ _ _ _ _ _ _ _ _ _ _ _ _ _
  ·have h2:kd≠2:=by simpa using h2
   rw[if_neg h2]at hK;exact WZ (c:=c) hi (s0.trans s1) hx L r ok (P.sub s1) N hd hl hdl hr hsz F hF (xs:=yV) (ys:=kU) (fun hk=>
    ⟨P1,P2,Pc,by show(List.replicate 32 (5:Int)).length<=1048576;simp,Ht,by rw[Hv];decide⟩) _ _ _ (fun a' c' h' q1 q2 q3=>fun _=>hK a' c' h' q1 q2 q3) _ _ _ _ _ _ _ _ _ _ _ _ _ _ _ _ _ _ _ _ _ _ _ _ _ _ _ _ _ _ _ _
 ·have hc:¬(r.k=0/\0<kd):=by
   intro h;rw[h.1]at hc;simp[h.2]at hc
  have eF:Cw bs dl room sz F r kd al=(r,al):=if_neg hc;rw[eF]at hK;exact hK aa ca h P N s0
def Su(bs:List Int)(dl room:Nat)(r:Rd)(kd:Int)(al:List Int):Rd×List Int:=if r.k=0/\kd=0 then stF bs dl room r al else(r,al)
theorem Zs:blk bs dl room sz F r al=Cw bs dl room sz F (Su bs dl room (bk3 bs r) (bk2 bs r).2 al).1 (bk2 bs r).2 (Su bs dl room (bk3 bs r) (bk2 bs r).2 al).2:=by
 have n2:=yp (bs:=bs) (n:=2) (r:=(bk1 bs r).1);have q2:(2:Int)^2=4:=by decide
 have e2:(tk bs 2 (bk1 bs r).1).2=(bk2 bs r).2:=rfl;rw[e2,q2]at n2;have h3:(bk3 bs r).k=0->(bk2 bs r).2≠3:=fun h e=>by
  have:=(Hn.1 (show(bd ((bk2 bs r).2==3) (bk2 bs r).1).k=0 from h)).2;rw[e]at this;cases this
 unfold blk Su;by_cases hk:(bk3 bs r).k=0
 ·have h3:=h3 hk;rw[if_neg (show ¬(bk3 bs r).k≠0 from fun h=>h hk)];by_cases h0:(bk2 bs r).2=0
  ·rw[if_pos h0,if_pos (show(bk3 bs r).k=0/\(bk2 bs r).2=0 from ⟨hk,h0⟩)];unfold Cw;rw[if_neg (fun h=>by omega)]
  ·rw[if_neg h0,if_neg (show ¬((bk3 bs r).k=0/\(bk2 bs r).2=0) from fun h=>h0 h.2)];unfold Cw;simp only;rw[if_pos (show(bk3 bs r).k=0/\0<(bk2 bs r).2 from ⟨hk,by omega⟩)];by_cases h1:(bk2 bs r).2=1
   ·rw[if_pos h1,if_neg (show ¬(bk2 bs r).2=2 by omega),if_pos hk]
   ·rw[if_neg h1,if_pos (show(bk2 bs r).2=2 by omega)];by_cases hL:(zN bs (bk3 bs r)).1.k=0
    ·rw[if_neg (show ¬(zN bs (bk3 bs r)).1.k≠0 from fun h=>h hL),if_pos hL]
    ·rw[if_pos (show(zN bs (bk3 bs r)).1.k≠0 from hL),if_neg hL]
 ·rw[if_pos (show(bk3 bs r).k≠0 from hk),if_neg (show ¬((bk3 bs r).k=0/\(bk2 bs r).2=0) from fun h=>hk h.1)];unfold Cw;rw[if_neg (fun h=>hk h.1)]
end
theorem KO(hi:qaC S h0)(s0:qaB h0 h)(hx:zo h0 .u8 a bs)(L:bs.length<=1048576)(r:Rd)(ok:okR bs r)(P:Part .u8 h (.slice aa al.length ca) al)(N:qaD h0 (.slice aa al.length ca))(hd:dl<=al.length)(hl:al.length<=dl+room)(hdl:dl<=40000)(hr:room<=100000)(hsz:sz<=40000)
  (F:Nat)(hF:8*bs.length+1<=F)(F0:Nat)(hF0:8*bs.length+1<=F0) :
  zb oPP S qI #[rdV a c bs r,Eg aa ca al dl sz room] h (BN h0 a c bs dl sz room (blF bs dl room sz F F0 r al)):=by
 refine Ix (vs:=[.slice a bs.length c,.int .i64 r.i,.int .i64 r.k,.slice aa al.length ca,.int .i64 dl,.int .i64 sz,.int .i64 room]) ⟨rfl,rfl,rfl,rfl,rfl,rfl,rfl,trivial⟩ (hi.sub s0) ?_;simp only[DS,Tr.wp,z4,Ex.ev,coerce,toInt_int,za,zc,ze,zd,xg,z9,Cst.val,SV.den,zn,zL,zz,zk,zi,zy,zV,vF,vG,vA,vB,vC,List.getElem?_cons_succ,vD,vE,vI,vH,vJ,List.length_cons,List.length_nil,Nat.zero_add,if_true,if_false,vK];refine⟨fun us h'=>∃(ls kd:Int) (r':Rd) (al':List Int) (a':Option Addr) (c' f:Nat),us=[.int .i64 ls,.int .i64 kd,.slice a bs.length c,.int .i64 r'.i,.int .i64 r'.k,.slice a' al'.length c',.int .i64 dl,.int .i64 sz,.int .i64 room]/\okR bs r'/\Part .u8 h' (.slice a' al'.length c') al'/\qaD h0 (.slice a' al'.length c')/\qaB h0 h'/\(dl<=al'.length/\al'.length<=dl+room)/\(r'.k=0->ls=0->8*(bs.length:Int)+1<=r'.i+f)/\blF bs dl room sz F F0 r al=(if ls≠0 then(r',al')else blF bs dl room sz F f r' al'),
  fun us _=>if toInt (us.getD 4 undef)=0/\toInt (us.getD 0 undef)=0 then(8*(bs.length:Int)+1-toInt (us.getD 3 undef)).toNat+1 else 0,⟨0,0,r,al,aa,ca,F0,rfl,ok,P,N,s0,⟨hd,hl⟩,fun hk _=>by have:=ok hk;omega,by rw[if_neg (by simp)]⟩,?_⟩
 rintro x0 x1 b1 m1 d1 i1 k1 b2 m2 d2 x4 x5 x6 h' ⟨ls,kd,r',al',a',c',f,hx1,ok',P',N',s',hl',hf,e'⟩;simp only[List.cons.injEq,Value.int.injEq,Value.slice.injEq,true_and,and_true]at hx1;obtain⟨rfl,rfl,⟨rfl,rfl,rfl⟩,rfl,rfl,⟨rfl,rfl,rfl⟩,rfl,rfl,rfl⟩:=hx1;rw[e'];refine⟨fun hgo=>?_,fun hend=>?_⟩
 ·have hgo:r'.k=0/\x0=0:=by simpa using hgo
  obtain⟨hk,rfl⟩:=hgo;have hpos:=ok' hk;obtain⟨f',rfl⟩:∃f',f=f'+1:=⟨f-1,by have:=hf hk rfl;omega⟩;have est:(if(0:Int)≠0 then(r',al')else blF bs dl room sz F (f'+1) r' al')=(if(bk1 bs r').2≠0 then blk bs dl room sz F r' al' else blF bs dl room sz F f' (blk bs dl room sz F r' al').1 (blk bs dl room sz F r' al').2):=by rw[if_neg (by simp),blF,if_pos hk]
  have n1:=yp (bs:=bs) (n:=1) (r:=r');have n2:=yp (bs:=bs) (n:=2) (r:=(bk1 bs r').1);have q1:(2:Int)^1=2:=by decide
  have q2:(2:Int)^2=4:=by decide
  refine(xD (hi.sub s') (hx.sub s') L r' ok' 1 (by omega)).mono ?_;rintro _ h2 ⟨rfl,rfl⟩;refine⟨_,_,_,_,_,_,rfl,?_⟩;refine(xD (hi.sub s') (hx.sub s') L (bk1 bs r').1 (y7 ok') 2 (by omega)).mono ?_;rintro _ h2 ⟨rfl,rfl⟩;refine⟨_,_,_,_,_,_,rfl,?_⟩;refine(xZ (hi.sub s') b1 d1 bs (bk2 bs r').1 ((bk2 bs r').2==3)).mono ?_;rintro _ h2 ⟨rfl,rfl⟩;refine⟨_,_,_,_,_,rfl,?_⟩;have e3:bd ((bk2 bs r').2==3) (bk2 bs r').1=bk3 bs r':=rfl;have e2:(tk bs 2 (bk1 bs r').1).2=(bk2 bs r').2:=rfl;rw[e3,e2];have e1:(tk bs 1 r').2=(bk1 bs r').2:=rfl;have ok3:okR bs (bk3 bs r'):=KN ok';have lt3:(bk3 bs r').k=0->r'.k=0/\r'.i+3<=(bk3 bs r').i:=KL;have fin:∀(h'':qaA) (a5:Option Addr) (c5:Nat),Part .u8 h'' (.slice a5 (blk bs dl room sz F r' al').2.length c5) (blk bs dl room sz F r' al').2->qaD h0 (.slice a5 (blk bs dl room sz F r' al').2.length c5)->qaB h0 h'' ->
    (∃(ls kd:Int) (r2:Rd) (al2:List Int) (a':Option Addr) (c' f:Nat),[Value.int .i64 (bk1 bs r').2,.int .i64 (bk2 bs r').2,.slice b1 bs.length d1,.int .i64 (blk bs dl room sz F r' al').1.i,.int .i64 (blk bs dl room sz F r' al').1.k,.slice a5 (blk bs dl room sz F r' al').2.length c5,.int .i64 dl,.int .i64 sz,.int .i64 room]=[.int .i64 ls,.int .i64 kd,.slice b1 bs.length d1,.int .i64 r2.i,.int .i64 r2.k,.slice a' al2.length c',.int .i64 dl,.int .i64 sz,.int .i64 room]/\okR bs r2/\Part .u8 h'' (.slice a' al2.length c') al2/\qaD h0 (.slice a' al2.length c')/\qaB h0 h''/\(dl<=al2.length/\al2.length<=dl+room)/\(r2.k=0->ls=0->8*(bs.length:Int)+1<=r2.i+f)/\(if(0:Int)≠0 then(r',al')else blF bs dl room sz F (f'+1) r' al')=(if ls≠0 then(r2,al2)else blF bs dl room sz F f r2 al2)) /\
    (if(blk bs dl room sz F r' al').1.k=0/\(bk1 bs r').2=0 then(8*(bs.length:Int)+1-(blk bs dl room sz F r' al').1.i).toNat+1 else 0)<(if r'.k=0/\(0:Int)=0 then(8*(bs.length:Int)+1-r'.i).toNat+1 else 0):=by
   intro h'' a5 c5 Q1 Q2 Q3;have hle:le2 (bk3 bs r') (blk bs dl room sz F r' al').1:=KM;refine⟨⟨_,_,_,_,a5,c5,f',rfl,Hw ok',Q1,Q2,Q3,Re hl'.1 hl'.2,fun h _=>?_,?_⟩,?_⟩
   ·have h3:=hle h;have h4:=lt3 h3.1;have:=hf hk rfl;push_cast at this;omega
   ·rw[est]
   ·rw[if_pos (show r'.k=0/\(0:Int)=0 from ⟨hk,rfl⟩)];split
    ·rename_i h;have h3:=hle h.1;have h4:=lt3 h3.1;omega
    ·omega
  have ebl:=Zs (bs:=bs) (dl:=dl) (room:=room) (sz:=sz) (F:=F) (r:=r') (al:=al');have hb1:Su bs dl room (bk3 bs r') (bk2 bs r').2 al'=if(bk3 bs r').k=0/\(bk2 bs r').2=0 then stF bs dl room (bk3 bs r') al' else(bk3 bs r',al'):=rfl
  rw[ebl]at fin;refine⟨fun hc=>?_,fun hc _=>?_⟩
  ·have hc:(bk3 bs r').k=0/\(bk2 bs r').2=0:=by simpa using hc
   rw[if_pos hc]at hb1;rw[hb1]at fin;refine zb.mono (Ss (c:=d1) (dl:=dl) (sz:=sz) (room:=room) hi s' hx L (bk3 bs r') ok3 P' N' hl'.1 hl'.2 hdl hr) ?_;rintro _ h4 ⟨a4,c4,rfl,P4,N4,s4⟩;have hlen:=Me (bs:=bs) (dl:=dl) (room:=room) (n:=(stN bs (bk3 bs r')).toNat) (r:=stR bs (bk3 bs r')) hl'.1 hl'.2;refine⟨_,_,_,_,_,_,_,_,_,_,_,rfl,fun _=>?_⟩;exact Xa (c:=d1) hi s4 hx L (stF bs dl room (bk3 bs r') al').1 (Ux ok3) P4 N4 hlen.1 hlen.2 hdl hr hsz F hF (bk2 bs r').2 (bk1 bs r').2 _ _ (fun a' c' h' q1 q2 q3=>fin h' a' c' q1 q2 q3) _ _ _ _ _ _ _ _ _ _ _ _ _ _ _ _ _ _ _ _ _ _ _ _ _
  ·have hc:¬((bk3 bs r').k=0/\(bk2 bs r').2=0):=by
    intro h;rw[h.1,h.2]at hc;simp at hc
   rw[if_neg hc]at hb1;rw[hb1]at fin;exact Xa (c:=d1) hi s' hx L (bk3 bs r') ok3 P' N' hl'.1 hl'.2 hdl hr hsz F hF (bk2 bs r').2 (bk1 bs r').2 _ _ (fun a' c' h' q1 q2 q3=>fin h' a' c' q1 q2 q3) _ _ _ _ _ _ _ _ _ _ _ _ _ _ _ _ _ _ _ _ _ _ _ _ _
 ·have hend:¬(r'.k=0/\x0=0):=by
   intro h;rw[h.1,h.2]at hend;simp at hend
  have el:(if x0≠0 then(r',al')else blF bs dl room sz F f r' al')=(r',al'):=by
   by_cases h0:x0≠0
   ·rw[if_pos h0]
   ·rw[if_neg h0,BB (fun h=>hend ⟨h,by omega⟩)]
  rw[el];exact⟨b2,d2,rfl,P',N',s'⟩
end
section
def yM(bs:List Int)(n:Nat)(ds:List Int):Rd×List Int:=blF bs (zB n ds).length 100000 n (8*bs.length+1) (8*bs.length+1) ⟨0,0⟩ (zB n ds)
def zK(bs:List Int)(n:Int)(ds:List Int):kT:=
 if bs.length>65536 then(7,[],0,())
 else if n<1\/n>32768 then(3,[],0,())
 else if(yM bs n.toNat ds).1.k≠0 then((yM bs n.toNat ds).1.k,(yM bs n.toNat ds).2.drop (zB n.toNat ds).length,0,())
 else(1,(yM bs n.toNat ds).2.drop (zB n.toNat ds).length,(yM bs n.toNat ds).1.i,())
theorem Mh{bs:List Int}{dl room sz F:Nat}:∀ {f:Nat} {r:Rd} {al:List Int},dl<=al.length->al.length<=dl+room->dl<=(blF bs dl room sz F f r al).2.length/\(blF bs dl room sz F f r al).2.length<=dl+room
 | 0,r,al,h1,h2=>⟨h1,h2⟩
 | f+1,r,al,h1,h2=>by
  have:=Re (bs:=bs) (sz:=sz) (F:=F) (r:=r) h1 h2;unfold blF;split
  ·split
   ·exact this
   ·exact Mh this.1 this.2
  ·exact⟨h1,h2⟩
theorem KP:∀ {f:Nat} {r:Rd} {al:List Int},okR bs r->okR bs (blF bs dl room sz F f r al).1
 | 0,r,al,H=>H
 | f+1,r,al,H=>by
  unfold blF;split
  ·split
   ·exact Hw H
   ·exact KP (Hw H)
  ·exact H
theorem Mi(hi:qaC S h0)(s:qaB h0 h)(P:Part .u8 h (.slice aa al.length ca) al)(hd:dl<=al.length)(hl:al.length<=2000000) :
  zb oPP S qX #[Eg aa ca al dl sz room] h (fun v h'=>Part .u8 h' v (al.drop dl)/\qaD h0 v/\qaB h0 h'):=by
 refine LP (vs:=[.slice aa al.length ca,.int .i64 dl,.int .i64 sz,.int .i64 room]) ⟨rfl,rfl,rfl,rfl,trivial⟩ (hi.sub s) ?_;simp only[GX,Tr.wp,Ex.ev,coerce,toInt_int,za,zc,ze,zd,xW,jI,z9,Cst.val,SV.den,vA,vB,decide_eq_true_eq,vD,vE,vI,vH];intro b hb;obtain⟨_,_,ei,hca,gx⟩:=P.ints;cases ei
 obtain⟨a',e,H'⟩:=wG gx (lo:=dl) (hi:=al.length) (m:=ca) hd (Nat.le_refl _) hca;have hdr:(al.drop dl).take (al.length-dl)=al.drop dl:=List.take_of_length_le (by rw[List.length_drop];omega);rw[hdr]at e H';rw[Int.toNat_natCast,e];have sb:qaB h (upd h b (.cells (ints .u8 []) 5)):=Sub.zC hb;refine⟨by omega,by omega,?_⟩;refine yA (xs:=[]) hi (s.trans sb) (Own.made (k:=.u8) (h:=h) (b:=b) (T:=5) []).part (New.of (ya s hb)) (H'.sub sb) (by simp only[List.length_nil,List.length_drop];omega) fun v' h' o n' s' _ _=>?_
 obtain⟨a4,c4,rfl,_,_⟩:=o.ints;rw[vH]at o n';exact⟨o,n',s'⟩
theorem Nd(hi:qaC S h)(a:Option Addr)(c:Nat)(ds:List Int)(n room:Nat)(hc:ds.length<=c)(hl:ds.length<=1099511627776)(hn:n<=32768)(hx:zo h .u8 a ds) :
  zb oPP S wK #[.int .i64 n,.slice a ds.length c,.int .i64 room] h (fun v h'=>∃a' c',v=Eg a' c' (zB n ds) (zB n ds).length n room/\Part .u8 h' (.slice a' (zB n ds).length c') (zB n ds)/\qaD h (.slice a' (zB n ds).length c')/\qaB h h'):=by
 refine Je (vs:=[.int .i64 n,.slice a ds.length c,.int .i64 room]) ⟨rfl,rfl,rfl,trivial⟩ hi ?_;simp only[ES,Tr.wp,z4,Ex.ev,coerce,toInt_int,zc,ze,zd,SV.den,zn,zL,zz,zk,zi,zy,vF,vG,vA,vB,vD,vE,vI,vH,vJ,if_false,vK];refine(Wd hi a c ds n hc hl hn hx).mono ?_;rintro v1 h1 ⟨O1,N1,s1⟩;obtain⟨a1,c1,rfl,_,_⟩:=Part.ints O1;exact⟨_,_,_,rfl,a1,c1,rfl,O1,N1,s1⟩
theorem FN(s:qaB h0 h'):xx.O h' (.agg #[.int .i64 k,.slice none 0 0,.int .i64 0]) (k,[],0,())/\xx.New h0 (.agg #[.int .i64 k,.slice none 0 0,.int .i64 0])/\qaB h0 h':=
 ⟨IK (x:=(k,[],0,())) Part.nil,fun b hb=>(by have:=(Hu (x:=(k,[],0,()))).1 hb;cases this),s⟩
theorem KQ{k n:Int}(P:Part .u8 h' v xs)(N:qaD h0 v)(s:qaB h0 h'):xx.O h' (.agg #[.int .i64 k,v,.int .i64 n]) (k,xs,n,())/\xx.New h0 (.agg #[.int .i64 k,v,.int .i64 n])/\qaB h0 h':=
 ⟨IK (x:=(k,xs,n,())) P,fun b hb=>N b ((Hu (x:=(k,xs,n,()))).1 hb),s⟩
theorem Hx(hn:n<=32768):(zB n ds).length<=32768/\(zB n ds).length<=(yM bs n ds).2.length/\(yM bs n ds).2.length<=(zB n ds).length+100000:=by
 have h1:(zB n ds).length<=32768:=by rw[je];omega
 have:=Mh (bs:=bs) (dl:=(zB n ds).length) (room:=100000) (sz:=n) (F:=8*bs.length+1) (f:=8*bs.length+1) (r:=⟨0,0⟩) (al:=zB n ds) (Nat.le_refl _) (by omega);exact⟨h1,this.1,this.2⟩
theorem Sv{n:Int}(L:Bf bs)(L2:Bf ds):Jn (zK bs n ds):=by
 unfold zK;split
 ·simp[Jn,smB]
 ·split
  ·simp[Jn,smB]
  ·obtain⟨h1,h2,h3⟩:=Hx (bs:=bs) (ds:=ds) (n:=n.toNat) (by omega);split
   ·show List.length (List.drop _ _)<=_;rw[List.length_drop];omega
   ·show List.length (List.drop _ _)<=_;rw[List.length_drop];omega
theorem Fi(hi:qaC S h)(O:tB.O h v bs)(L:Bf bs)(n:Int)(wn:(Lit.int .i64 n).wf=true)(O2:tB.O h u ds)(L2:Bf ds) :
  zb oPP S wI #[v,.int .i64 n,u] h (fun v h'=>xx.O h' v (zK bs n ds)/\xx.New h v/\qaB h h'):=by
 obtain⟨a,c,rfl,hc,hx⟩:=Part.ints O;obtain⟨a2,c2,rfl,hc2,hx2⟩:=Part.ints O2;have hL:bs.length<=1048576:=L;have hL2:ds.length<=1048576:=L2;refine Jd (vs:=[.slice a bs.length c,.int .i64 n,.slice a2 ds.length c2]) ⟨rfl,rfl,rfl,trivial⟩ hi ?_;simp only[ER,Tr.wp,z4,Ex.ev,coerce,toInt_int,za,zc,ze,zd,jA,z9,Cst.val,SV.den,zn,zL,zz,zk,zi,zy,vF,vG,vA,vB,decide_eq_true_eq,decide_eq_false_iff_not,vD,vE,vI,vH,vJ,List.length_cons,List.length_nil,Nat.zero_add,if_true,if_false,vK];refine⟨fun hgt=>?_,fun hle=>⟨fun hbad=>?_,fun hok=>?_⟩⟩
 ·have e:zK bs n ds=(7,[],0,()):=if_pos (by omega);rw[e];exact FN (fun _ _ e=>e)
 ·have e:zK bs n ds=(3,[],0,()):=by
   unfold zK;rw[if_neg (by omega),if_pos (by simp at hbad;omega)]
  rw[e];exact FN (fun _ _ e=>e)
 have hok:1<=n/\n<=32768:=by simp at hok;omega
 have e:zK bs n ds=if(yM bs n.toNat ds).1.k≠0 then((yM bs n.toNat ds).1.k,(yM bs n.toNat ds).2.drop (zB n.toNat ds).length,0,())else(1,(yM bs n.toNat ds).2.drop (zB n.toNat ds).length,(yM bs n.toNat ds).1.i,()):=by
  unfold zK;rw[if_neg (by omega),if_neg (by omega)]
 rw[e];obtain⟨m,rfl⟩:=Int.eq_ofNat_of_zero_le (show 0<=n by omega);rw[Int.toNat_natCast];obtain⟨f1,f2,f3⟩:=Hx (bs:=bs) (ds:=ds) (n:=m) (by omega);have okr:okR bs ⟨0,0⟩:=fun _=>⟨Int.le_refl _,by simp only;omega⟩
 refine(Nd hi a2 c2 ds m 100000 hc2 (by omega) (by omega) hx2).mono ?_;rintro _ h1 ⟨a3,c3,rfl,P3,N3,s3⟩;refine⟨_,_,_,_,_,_,rfl,?_⟩;have K:=KO (c:=c) (dl:=(zB m ds).length) (sz:=m) (room:=100000) hi s3 hx hL ⟨0,0⟩ okr P3 N3 (Nat.le_refl _) (by omega) (by omega) (by omega) (by omega) (8*bs.length+1) (Nat.le_refl _) (8*bs.length+1) (Nat.le_refl _);refine zb.mono K ?_;rintro _ h4 ⟨a4,c4,rfl,P4,N4,s4⟩;have eF:blF bs (zB m ds).length 100000 m (8*bs.length+1) (8*bs.length+1) ⟨0,0⟩ (zB m ds)=yM bs m ds:=rfl;rw[eF]at P4 N4 ⊢;refine⟨_,_,_,_,_,_,_,_,_,_,_,rfl,fun hne=>?_,fun heq=>?_⟩
 ·have hk:(yM bs m ds).1.k≠0:=by simpa using hne
  rw[if_pos hk];refine zb.mono (Mi (dl:=(zB m ds).length) (sz:=m) (room:=100000) hi s4 P4 f2 (by omega)) ?_;rintro v5 h5 ⟨P5,N5,s5⟩;obtain⟨a5,c5,rfl,_,_⟩:=P5.ints;exact⟨_,_,_,rfl,KQ P5 N5 s5⟩
 ·have hk:(yM bs m ds).1.k=0:=by simpa using heq
  rw[if_neg (by omega)];refine zb.mono (Mi (dl:=(zB m ds).length) (sz:=m) (room:=100000) hi s4 P4 f2 (by omega)) ?_;rintro v5 h5 ⟨P5,N5,s5⟩;obtain⟨a5,c5,rfl,_,_⟩:=P5.ints;exact⟨_,_,_,rfl,KQ P5 N5 s5⟩
end
end
variable {r':Rd}{B D b bm c1 c2:Nat}{T:TypeId}{p:Int}{last:Bool}{ls:List Nat}{g1 g2 g3 hb:qaA}{Y:Nat->Nat->Nat}{d l:Value}
section
section
theorem Uy:∀s:Fin 285,265<=s.1->0<=IntKind.i64.wrap (IntKind.i64.wrap ((IntKind.i64.wrap ((s.1:Int)-265)).tdiv 4)+1) /\
  IntKind.i64.wrap (IntKind.i64.wrap (IntKind.i64.wrap (4+(IntKind.i64.wrap ((s.1:Int)-265)).tmod 4)*2^min (IntKind.i64.wrap (IntKind.i64.wrap ((IntKind.i64.wrap ((s.1:Int)-265)).tdiv 4)+1)).toNat IntKind.i64.bits)+3)=((yL s.1).1:Int) /\
  IntKind.i64.wrap (IntKind.i64.wrap ((IntKind.i64.wrap ((s.1:Int)-265)).tdiv 4)+1)=((yL s.1).2:Int):=by decide +kernel
theorem Uz:∀d:Fin 30,4<=d.1->0<=IntKind.i64.wrap (IntKind.i64.wrap ((d.1:Int).tdiv 2)-1) /\
  IntKind.i64.wrap (IntKind.i64.wrap (IntKind.i64.wrap (2+(d.1:Int).tmod 2)*2^min (IntKind.i64.wrap (IntKind.i64.wrap ((d.1:Int).tdiv 2)-1)).toNat IntKind.i64.bits)+1)=((yW d.1).1:Int) /\
  IntKind.i64.wrap (IntKind.i64.wrap ((d.1:Int).tdiv 2)-1)=((yW d.1).2:Int):=by decide +kernel
theorem Sw(hi:qaC S h)(s:Nat)(h1:257<=s)(h2:s<=285) :
  zb oPP S AS #[.int .i64 s] h (fun v h'=>v=.tuple #[.int .i64 (yL s).1,.int .i64 (yL s).2]/\h'=h):=by
 refine I0 (vs:=[.int .i64 s]) ⟨rfl,trivial⟩ hi ?_;simp only[DV,Tr.wp,Ex.ev,coerce,toInt_int,za,z9,arith,Cst.val,SV.den,vA,decide_eq_true_eq,decide_eq_false_iff_not,vD,vE,and_true,if_false,vK];refine⟨fun he=>?_,fun hne=>⟨fun hlt=>?_,fun hge=>?_⟩⟩
 ·obtain rfl:s=285:=by have:(s:Int)=285:=beq_iff_eq.1 he;omega
  rfl
 ·have e:yL s=(s-254,0):=by unfold yL;rw[if_neg (by omega),if_pos (by omega)]
  rw[e,i64_in ((s:Int)-254) (by omega)]
  first | rfl | (rw[show((s-254:Nat):Int)=(s:Int)-254 by omega];rfl)
 ·have hne:s≠285:=fun e=>by subst e;simp at hne
  obtain⟨a1,a2,a3⟩:=Uy ⟨s,by omega⟩ (by simp only;omega);simp only at a1 a2 a3;rw[a2,a3];exact⟨by simp,rfl⟩
theorem Wh(hi:qaC S h)(d:Nat)(h1:d<=29) :
  zb oPP S Cp #[.int .i64 d] h (fun v h'=>v=.tuple #[.int .i64 (yW d).1,.int .i64 (yW d).2]/\h'=h):=by
 refine Km (vs:=[.int .i64 d]) ⟨rfl,trivial⟩ hi ?_;simp only[Gl,Tr.wp,Ex.ev,coerce,toInt_int,za,z9,arith,Cst.val,SV.den,vA,decide_eq_true_eq,decide_eq_false_iff_not,vD,vE,and_true,if_false,vK];refine⟨fun hlt=>?_,fun hge=>?_⟩
 ·have e:yW d=(d+1,0):=by unfold yW;rw[if_pos (by omega)]
  rw[e,i64_in ((d:Int)+1) (by omega)]
  first | exact rfl | (push_cast;rfl)
 ·obtain⟨a1,a2,a3⟩:=Uz ⟨d,by omega⟩ (by simp only;omega);simp only at a1 a2 a3;rw[a2,a3];exact⟨by simp,rfl⟩
end
section
structure ErrL(h:qaA):Prop where
 es:Errs h
 e6:zj h ⟨5,0,none⟩=some (.int .i64 6)
theorem ErrL.sub(H:ErrL h)(s:qaB h h'):ErrL h':=⟨H.es.sub s,xF s H.e6⟩
structure KC where
 a:Option Addr
 c:Nat
 bs:List Int
 dl:Nat
 room:Nat
 sz:Nat
 T:TypeId
 TW:TypeId
 bm:Nat
 bw:Nat
 pre:List Int
def KC.otl(k:KC)(al:List Int):List Int:=k.pre++al.drop k.dl
theorem KC.Rf{k:KC}:(k.otl al).length=k.pre.length+(al.length-k.dl):=by unfold KC.otl;rw[List.length_append,List.length_drop]
theorem KC.Rh{k:KC}(h:k.dl<=al.length):k.otl (al++ys)=k.otl al++ys:=by unfold KC.otl;rw[List.drop_append_of_le_length h,List.append_assoc]
def xk(k:KC)(al:List Int)(out:Value)(last:Bool)(l d:Value):MC:=⟨.pointer (some ⟨k.bw,0,none⟩),out,(k.room:Int)-((al.length-k.dl:Nat):Int),last,l,d⟩
structure IM(h0 h:qaA)(k:KC)(r:Rd)(al:List Int)(last:Bool)(l d:Value):Prop where
 mt:∃(p:Nat) (ao:Option Addr) (co:Nat),p<=8*k.bs.length/\(r.k=0->r.i=p)/\h k.bm=some (zX k.a k.c k.bs p (xk k al (.slice ao (k.otl al).length co) last l d) k.T) /\
  Part .u8 h (.slice ao (k.otl al).length co) (k.otl al)/\qaD (mkL h0 [k.bm,k.bw]) (.slice ao (k.otl al).length co)
 rg:RingAt h0 h k.bw k.TW k.sz (zB k.sz al)
 nm:h0 k.bm=none
 ne:k.bm≠k.bw
 sb:qaB h0 h
 le:k.dl<=al.length/\al.length<=k.dl+k.room/\k.pre.length<=100000
section
variable {k:KC}
theorem IM.xH(N:qaD (mkL h0 [k.bm,k.bw]) l){z:Nat}(hz:zh l=some z):z≠k.bm/\z≠k.bw/\h0 z=none:=by
 obtain⟨h1,h2⟩:=Au.1 (N z hz);simp only[List.mem_cons,List.not_mem_nil,or_false,not_or]at h1;exact⟨h1.1,h1.2,h2⟩
theorem IM.Pm(H:IM h0 h k r al last l d){last':Bool}{l' d':Value}{p:Nat}{ao:Option Addr}{co:Nat}(hp:p<=8*k.bs.length)(hr:r'.k=0->r'.i=p)(P:Part .u8 h (.slice ao (k.otl al).length co) (k.otl al))(N:qaD (mkL h0 [k.bm,k.bw]) (.slice ao (k.otl al).length co)) :
  IM h0 (upd h k.bm (zX k.a k.c k.bs p (xk k al (.slice ao (k.otl al).length co) last' l' d') k.T)) k r' al last' l' d':=by
 obtain⟨dd,at_,n,hb,R,s,hn⟩:=H.rg;have sb:=xJ (o:=zX k.a k.c k.bs p (xk k al (.slice ao (k.otl al).length co) last' l' d') k.T) H.sb H.nm;exact⟨⟨p,ao,co,hp,hr,upd_same,P.keep fun z hz=>upd_ne (IM.xH N hz).1,N⟩,⟨dd,at_,n,(upd_ne (Ne.symm H.ne)).trans hb,R,sb,hn⟩,H.nm,H.ne,sb,H.le⟩
theorem DC(hi:qaC S h0)(G:Errs h0)(hx:zo h0 .u8 k.a k.bs)(L:k.bs.length<=1048576)(H:IM h0 h k r al last l d)(hk:r.k=0)(n:Nat)(hn:n<=32) :
  zb oPP S yf #[.pointer (some ⟨k.bm,0,none⟩),.int .i64 n] h (fun v h'=>v=.tuple #[.int .i64 (tk k.bs n r).2,yh (tk k.bs n r).1.k]/\IM h0 h' k (tk k.bs n r).1 al last l d):=by
 obtain⟨p,ao,co,hp,hr,hb,P,N⟩:=H.mt;obtain⟨i,kk⟩:=r;obtain rfl:kk=0:=hk;obtain rfl:i=(p:Int):=hr rfl;refine zb.mono (Jm hi G hx L p hp n hn ⟨hb,H.nm,H.sb⟩) ?_;rintro _ h1 ⟨rfl,rfl⟩;have hp2:∃p2:Nat,p2<=8*k.bs.length/\(tk k.bs n ⟨(p:Int),0⟩).1.i=p2:=by
  unfold tk;rw[if_pos rfl];split
  ·exact⟨p,hp,rfl⟩
  ·rename_i h;simp only at h;exact⟨p+n,by omega,by simp only;omega⟩
 obtain⟨p2,hp2,e2⟩:=hp2;rw[e2];exact⟨rfl,H.Pm hp2 (fun _=>e2) P N⟩
theorem Hy{kk:IntKind}(H:zo h kk a xs)(hk:∀z,zh (.slice a n c)=some z->h' z=h z):zo h' kk a xs:=fun i x hx=>by
 obtain⟨ad,rfl,g1⟩:=H i x hx;have e:=hk ad.block rfl;have blk:∀n,(ad.add n).block=ad.block:=fun n=>by unfold Addr.add;split <;> rfl
 refine⟨ad,rfl,?_⟩;rw[<-g1];unfold Eng.zj;rw[show h' (ad.add _).block=h (ad.add _).block by rw[blk];exact e]
theorem Ri{m:MC}{p q:Int}(hb:h bm=some (zX a c bs p m T)):zQ h ⟨bm,4,none⟩ (.int .i64 q)=upd h bm (zX a c bs p ⟨m.w,m.out,q,m.last,m.l,m.d⟩ T):=by
 rw[hset_cells' hb];rfl
theorem Pn{m:MC}(hb:h bm=some (zX a c bs p m T)):zQ h ⟨bm,3,none⟩ v=upd h bm (zX a c bs p ⟨m.w,v,m.rm,m.last,m.l,m.d⟩ T):=by
 rw[hset_cells' hb];rfl
theorem U0(hi:qaC S h0)(G:ErrL h0)(hro:k.room<=200000)(hdl:k.dl<=40000)(H:IM h0 h k r al last l d)(hk:r.k=0){cd:Nat}(hy:zo h .u8 ad ys)(hyc:ys.length<=cd)(hyl:ys.length<=1000)(hyn:∀z,zh (.slice ad ys.length cd)=some z->z≠k.bm/\z≠k.bw/\(∀p ao co,h k.bm=some (zX k.a k.c k.bs p (xk k al (.slice ao (k.otl al).length co) last l d) k.T)->zh (.slice ao (k.otl al).length co)≠some z)) :
  zb oPP S jB #[.pointer (some ⟨k.bm,0,none⟩),.slice ad ys.length cd] h (fun v h'=>v=yh (tell k.dl k.room r al ys).1.k/\IM h0 h' k (tell k.dl k.room r al ys).1 (tell k.dl k.room r al ys).2 last l d):=by
 obtain⟨p,ao,co,hp,hr,hb,P,N⟩:=H.mt;refine E0 (vs:=[.pointer (some ⟨k.bm,0,none⟩),.slice ad ys.length cd]) ⟨rfl,rfl,trivial⟩ (hi.sub H.sb) ?_;simp only[AV,Tr.wp,z4,Ex.ev,coerce,toInt_int,za,zc,ze,zd,zf,zx,xb,z9,arith,Cst.val,SV.den,zn,zL,zz,zk,zy,zq,yk,vG,vA,vB,decide_eq_true_eq,decide_eq_false_iff_not,vD,vE,vI,vH,Nat.zero_add,Nat.add_zero,and_true,if_true,zu];obtain⟨g0,g1,g2,g3,g4,_⟩:=yO hb;have hsb:¬S k.bm:=fun hs=>hi k.bm hs H.nm
 refine⟨by simp,_,g4,fun hgt=>?_,fun hle=>?_⟩
 ·have hgt:k.room<al.length-k.dl+ys.length:=by simp only[xk]at hgt;have:=H.le;omega
  have et:tell k.dl k.room r al ys=(⟨r.i,6⟩,al):=by unfold tell;rw[if_pos hk,if_pos hgt]
  rw[et];refine⟨6,(G.sub H.sb).e6,rfl,?_⟩;have H':=H.Pm (r':=⟨r.i,6⟩) (last':=last) (l':=l) (d':=d) hp (fun h=>by cases h) P N;rwa[qR hb]at H'
 ·have hle:¬k.room<al.length-k.dl+ys.length:=by simp only[xk]at hle;have:=H.le;omega
  have et:tell k.dl k.room r al ys=(r,al++ys):=by unfold tell;rw[if_pos hk,if_neg hle]
  rw[et];have hrm:IntKind.i64.wrap ((xk k al (.slice ao (k.otl al).length co) last l d).rm-(ys.length:Int))=(k.room:Int)-(((al++ys).length-k.dl:Nat):Int):=by
   have:=H.le;simp only[xk,List.length_append];rw[i64_in _ (by omega)];omega
  refine⟨by simp,_,g4,by simp,kS hb hsb g4,by simp,?_⟩;rw[hrm,Ri hb];obtain⟨h1,hh1⟩:∃h1,h1=upd h k.bm (zX k.a k.c k.bs p ⟨(xk k al (.slice ao (k.otl al).length co) last l d).w,(xk k al (.slice ao (k.otl al).length co) last l d).out,(k.room:Int)-(((al++ys).length-k.dl:Nat):Int),(xk k al (.slice ao (k.otl al).length co) last l d).last,(xk k al (.slice ao (k.otl al).length co) last l d).l,(xk k al (.slice ao (k.otl al).length co) last l d).d⟩ k.T):=⟨_,rfl⟩;rw[<-hh1];have hb1:h1 k.bm=some (zX k.a k.c k.bs p ⟨.pointer (some ⟨k.bw,0,none⟩),.slice ao (k.otl al).length co,(k.room:Int)-(((al++ys).length-k.dl:Nat):Int),last,l,d⟩ k.T):=by rw[hh1,upd_same];rfl
  obtain⟨_,_,_,q3,_⟩:=yO hb1;have hone:∀z,z≠k.bm->h1 z=h z:=fun z hz=>by rw[hh1];exact upd_ne hz
  have s1:qaB h0 h1:=by rw[hh1];exact xJ H.sb H.nm
  have P1:Part .u8 h1 (.slice ao (k.otl al).length co) (k.otl al):=P.keep fun z hz=>hone z (IM.xH N hz).1
  have hy1:zo h1 .u8 ad ys:=Hy (n:=ys.length) (c:=cd) hy fun z hz=>hone z (hyn z hz).1
  refine⟨_,_,_,q3,?_⟩;have hdl2:(k.otl al).length<=300000:=by rw[KC.Rf];have:=H.le;omega
  refine yA hi s1 P1 (fun z hz=>(IM.xH N hz).2.2) hy1 (by omega) fun v5 h5 o5 n5 s5 k5 r5=>?_
  obtain⟨a5,c5,rfl,_,_⟩:=o5.ints;simp only[zd,zc,ze];have hb5:h5 k.bm=some (zX k.a k.c k.bs p ⟨.pointer (some ⟨k.bw,0,none⟩),.slice ao (k.otl al).length co,(k.room:Int)-(((al++ys).length-k.dl:Nat):Int),last,l,d⟩ k.T):=(k5 k.bm (by rw[hb1];simp) (fun e=>(IM.xH N e).1 rfl)).trans hb1;obtain⟨_,_,_,w3,_⟩:=yO hb5;refine⟨by simp,kS hb5 hsb w3,by simp,?_⟩;rw[Pn hb5];obtain⟨h6,hh6⟩:∃h6,h6=upd h5 k.bm (zX k.a k.c k.bs p ⟨.pointer (some ⟨k.bw,0,none⟩),.slice a5 (k.otl al++ys).length c5,(k.room:Int)-(((al++ys).length-k.dl:Nat):Int),last,l,d⟩ k.T):=⟨_,rfl⟩;rw[<-hh6];have hb6:h6 k.bm=some (zX k.a k.c k.bs p ⟨.pointer (some ⟨k.bw,0,none⟩),.slice a5 (k.otl al++ys).length c5,(k.room:Int)-(((al++ys).length-k.dl:Nat):Int),last,l,d⟩ k.T):=by rw[hh6,upd_same]
  obtain⟨_,_,u2,_⟩:=yO hb6;have h65:∀z,z≠k.bm->h6 z=h5 z:=fun z hz=>by rw[hh6];exact upd_ne hz
  have s6:qaB h0 h6:=by rw[hh6];exact xJ s5 H.nm
  obtain⟨dd,at_,nn,hbw,R,sR,hnw⟩:=H.rg;have hbw1:h1 k.bw=some (yj k.sz dd at_ nn k.TW):=(hone k.bw (Ne.symm H.ne)).trans hbw;have hbw5:h5 k.bw=some (yj k.sz dd at_ nn k.TW):=(k5 k.bw (by rw[hbw1];simp) (fun e=>(IM.xH N e).2.1 rfl)).trans hbw1;have R6:RingAt h0 h6 k.bw k.TW k.sz (zB k.sz al):=⟨dd,at_,nn,(h65 k.bw (Ne.symm H.ne)).trans hbw5,R,s6,hnw⟩;have nv:∀z,zh (.slice a5 (k.otl al++ys).length c5)=some z->z≠k.bm/\z≠k.bw:=fun z hz=>by
   rcases r5 with r5 | r5
   ·have:=IM.xH N (r5▸hz);exact⟨this.1,this.2.1⟩
   ·have:=r5 z hz;exact⟨fun e=>(by rw[e,hb1]at this;cases this),fun e=>(by rw[e,hbw1]at this;cases this)⟩
  have hy6:zo h6 .u8 ad ys:=by
   by_cases hys:ys=[]
   ·rw[hys];exact fun i x hx=>by simp at hx
   refine Hy (n:=ys.length) (c:=cd) hy1 fun z hz=>?_
   obtain⟨z1,z2,z3⟩:=hyn z hz;rw[h65 z z1];refine k5 z ?_ (z3 p ao co hb);obtain⟨y0,hy0⟩:∃y0,ys[0]? = some y0:=by
    cases ys with
    | nil=>exact absurd rfl hys
    | cons y0 yr=>exact⟨y0,rfl⟩
   obtain⟨ad',e',g'⟩:=hy1 0 y0 hy0;rw[e']at hz;have ez:ad'.block=z:=by simpa[zh]using hz
   rw[<-ez];intro hn;unfold Eng.zj at g';have blk:(ad'.add 0).block=ad'.block:=by unfold Addr.add;split <;> rfl
   rw[blk,hn]at g';cases g'
  refine⟨_,u2,?_⟩;refine zb.mono (Sq hi R6 ad cd ys hyc (by omega) fun h' hh=>Hy (n:=ys.length) (c:=cd) hy6 fun z hz=>hh z (hyn z hz).2.1) ?_;rintro _ h7 ⟨rfl,R7,hk7⟩;rw[BW]at R7;have ed:k.otl (al++ys)=k.otl al++ys:=KC.Rh H.le.1;refine⟨rfl,by rw[hk];rfl,⟨p,a5,c5,hp,hr,?_,?_,?_⟩,R7,H.nm,H.ne,R7.sub,?_⟩
  ·rw[hk7 k.bm H.ne,hb6,ed];rfl
  ·rw[ed];exact o5.keep fun z hz=>(hk7 z (nv z hz).2).trans (h65 z (nv z hz).1)
  ·rw[ed];exact fun z hz=>Au.2 ⟨by simp[(nv z hz).1,(nv z hz).2],n5 z hz⟩
  ·have:=H.le;simp only[List.length_append];omega
end
end
section
def fnV(k:KC)(f:Nat):Value:=.func (.func f) #[.pointer (some ⟨k.bm,0,none⟩)] #[]
def cont(k:KC)(F f:Nat)(last:Bool)(X:Rd×List Int):Rd×List Int:=if last=true then X else blF k.bs k.dl k.room k.sz F f X.1 X.2
theorem jb{k:KC}{X:Rd×List Int}(h:X.1.k≠0):cont k F f last X=X:=by
 unfold cont;split
 ·rfl
 ·exact BB h
def Po(h0 hb:qaA)(l d:Value)(cl cd:List (Nat×Nat)):Prop:=
 ∃(b1 b2:Nat) (T1 P1 T2 P2:List (Nat×Nat)) (a1 a2:Option Addr) (c1 c2:Nat),l=.pointer (some ⟨b1,0,none⟩)/\d=.pointer (some ⟨b2,0,none⟩) /\
  TabV h0 hb b1 T1 P1 a1 c1 (Em cl cl.length) (Ym cl cl.length)/\TabV h0 hb b2 T2 P2 a2 c2 (Em cd cd.length) (Ym cd cd.length)/\T1.length<=20000/\T2.length<=20000/\(∀c∈cl,c.1<=15)/\(∀c∈cd,c.1<=15)/\cl.length<=1000/\cd.length<=1000
def mz(k:KC)(r:Rd):Nat:=4*(8*(k.bs.length:Int)+8-r.i).toNat
theorem Ih{k:KC}{r rr:Rd}{m:Nat}(h:r.i+m<=rr.i)(h2:rr.i<=8*(k.bs.length:Int)):mz k rr+4*m<=mz k r:=by unfold mz;omega
def Zt (h0 hb : qaA) (k : KC) (F : Nat) (Fin : Rd × List Int) (v : Value) (r : Rd) (al : List Int) (last : Bool) (l d : Value) (n : Nat) : Prop :=
  ∃ f : Nat, 8 * (k.bs.length : Int) + 1 <= r.i + f /\
   ((v = fnV k yq /\ n = mz k r + 0 /\ Fin = blF k.bs k.dl k.room k.sz F f r al) \/
    (v = fnV k jd /\ n = mz k r + 3 /\ Fin = cont k F f last (stF k.bs k.dl k.room r al)) \/
    (v = fnV k ji /\ n = mz k r + 3 /\ Fin = cont k F f last (syF k.bs (zl yV) (zl kU) k.dl k.room k.sz F r al)) \/
    (v = fnV k xT /\ n = mz k r + 3 /\ Fin = cont k F f last (if (zN k.bs r).1.k ≠ 0 then ((zN k.bs r).1, al) else syF k.bs (zl (zN k.bs r).2.1) (zl (zN k.bs r).2.2) k.dl k.room k.sz F (zN k.bs r).1 al)) \/
    (v = fnV k yG /\ n = mz k r + 2 /\ ∃ (cl cd : List (Nat × Nat)) (f' : Nat), Po h0 hb l d cl cd /\ 8 * (k.bs.length : Int) + 1 <= r.i + f' /\ Fin = cont k F f last (syF k.bs cl cd k.dl k.room k.sz f' r al)) \/
    (v = fnV k x8 /\ n = mz k r + 1 /\ Fin = cont k F f last (r, al)) \/
    (v = .nilFunc /\ n = mz k r + 0 /\ Fin = (r, al)))
def Eh(h0:qaA)(k:KC)(F:Nat)(Fin:Rd×List Int)(B:Nat)(v:Value)(h':qaA):Prop:=
 ∃(nx:Value) (rr:Rd) (al':List Int) (hb:qaA) (last:Bool) (l d:Value),v=.tuple #[nx,yh rr.k]/\qaB h0 hb/\IM hb h' k rr al' last l d/\okR k.bs rr /\
  (rr.k≠0->Fin=(rr,al')/\(nx=.nilFunc\/∃f,nx=fnV k f))/\(rr.k=0->∃n,n<B/\Zt h0 hb k F Fin nx rr al' last l d n)
section
variable {k:KC}{Fin:Rd × List Int}
theorem Wi(hi:qaC S h0)(sb:qaB h0 hb)(H:IM hb h k r al last l d)(hk:r.k=0)(ok:okR k.bs r)(f:Nat)(hf:8*(k.bs.length:Int)+1<=r.i+f)(hB:mz k r+1<=B)(hF:Fin=cont k F f last (r,al)) :
  zb oPP S x8 #[.pointer (some ⟨k.bm,0,none⟩)] h (Eh h0 k F Fin B):=by
 refine Dr (vs:=[.pointer (some ⟨k.bm,0,none⟩)]) ⟨rfl,trivial⟩ (hi.sub (sb.trans H.sb)) ?_;simp only[Ac,Tr.wp,Ex.ev,coerce,za,zf,zx,xb,Cst.val,SV.den,zy,zq,vA,vB,vD,vE,vI,vH,Nat.zero_add,Nat.add_zero,and_true,if_false,vK,zu];obtain⟨p,ao,co,hp,hr,hbm,P,N⟩:=H.mt;obtain⟨_,_,_,_,_,g5,_⟩:=yO hbm;have ez:yh r.k=.nilIface:=by rw[hk];rfl
 refine⟨by simp,last,g5,fun hl=>?_,fun hl=>?_⟩
 ·refine⟨.nilFunc,r,al,hb,last,l,d,by rw[ez],sb,H,ok,fun h=>absurd hk h,fun _=>⟨_,(by omega:mz k r+0<B),f,hf,.inr (.inr (.inr (.inr (.inr (.inr ⟨rfl,rfl,?_⟩)))))⟩⟩;rw[hF,cont,if_pos hl]
 ·refine⟨fnV k yq,r,al,hb,last,l,d,by rw[ez];rfl,sb,H,ok,fun h=>absurd hk h,fun _=>⟨_,(by omega:mz k r+0<B),f,hf,.inl ⟨rfl,rfl,?_⟩⟩⟩;rw[hF,cont,if_neg (by rw[hl];decide)]
theorem U1(h:r.k≠0):tk bs n r=(r,0):=by unfold tk;rw[if_neg h]
theorem Cg(h:r.k≠0):bd w r=r:=by unfold bd;rw[if_neg (fun e=>h e.1)]
theorem U3{m:MC}(hb:h bm=some (zX a c bs p m T)):zQ h ⟨bm,5,none⟩ (.bool w)=upd h bm (zX a c bs p ⟨m.w,m.out,m.rm,w,m.l,m.d⟩ T):=by
 rw[hset_cells' hb];rfl
theorem IM.Ii(H:IM hb h k r al last l d)(hr:r'.k≠0):IM hb h k r' al last l d:=by
 obtain⟨p,ao,co,hp,_,hbm,P,N⟩:=H.mt;exact⟨⟨p,ao,co,hp,fun h=>absurd h hr,hbm,P,N⟩,H.rg,H.nm,H.ne,H.sb,H.le⟩
theorem IM.XZ(H:IM hb h k r al last l d)(w:Bool)(hsb:¬S k.bm):xE S h ⟨k.bm,5,none⟩/\IM hb (zQ h ⟨k.bm,5,none⟩ (.bool w)) k r al w l d:=by
 obtain⟨p,ao,co,hp,hr,hbm,P,N⟩:=H.mt;obtain⟨_,_,_,_,_,g5,_⟩:=yO hbm;refine⟨kS hbm hsb g5,?_⟩;rw[U3 hbm];exact H.Pm hp hr P N
theorem Ya(hi:qaC S h0)(G:Errs h0)(hx:zo h0 .u8 k.a k.bs)(L:k.bs.length<=1048576)(sb:qaB h0 hb)(H:IM hb h k r al last l d)(hk:r.k=0)(ok:okR k.bs r)(f:Nat)(hf:8*(k.bs.length:Int)+1<=r.i+f)(hB:mz k r+0<=B)(hF:Fin=blF k.bs k.dl k.room k.sz F f r al) :
  zb oPP S yq #[.pointer (some ⟨k.bm,0,none⟩)] h (Eh h0 k F Fin B):=by
 refine DI (vs:=[.pointer (some ⟨k.bm,0,none⟩)]) ⟨rfl,trivial⟩ (hi.sub (sb.trans H.sb)) ?_;simp only[A0,Tr.wp,z4,Ex.ev,coerce,toInt_int,za,zf,zx,xb,z9,Cst.val,SV.den,zn,zL,zz,zk,zi,zy,zq,yk,vF,vG,vA,vB,vD,vE,vI,vH,vJ,List.length_cons,List.length_nil,Nat.zero_add,Nat.add_zero,and_true,if_true,if_false,vK,zu];have hib:=hi.sub sb;have hsb:¬S k.bm:=fun hs=>hib k.bm hs H.nm
 have hpos:=ok hk;obtain⟨f',rfl⟩:∃f',f=f'+1:=⟨f-1,by omega⟩;have eF:Fin=cont k F f' ((bk1 k.bs r).2==1) (blk k.bs k.dl k.room k.sz F r al):=by
  rw[hF,blF,if_pos hk];have n1:=yp (bs:=k.bs) (n:=1) (r:=r);have q1:(2:Int)^1=2:=by decide
  have e1:(tk k.bs 1 r).2=(bk1 k.bs r).2:=rfl;rw[e1,q1]at n1;unfold cont;by_cases h1:(bk1 k.bs r).2=1
  ·rw[if_pos (show(bk1 k.bs r).2≠0 by omega),if_pos (by rw[h1];rfl)]
  ·rw[if_neg (show ¬(bk1 k.bs r).2≠0 by omega),if_neg (by simpa using h1)]
 have ok1:okR k.bs (bk1 k.bs r).1:=y7 ok;refine zb.mono (DC hib (G.sub sb) (hx.sub sb) L H hk 1 (by omega)) ?_;rintro _ h1 ⟨rfl,H1⟩;refine⟨_,yh (tk k.bs 1 r).1.k,zg,by rw[zg],fun hz=>?_,fun hz=>?_⟩
 ·rw[zg,zP]at hz;have hk1:(bk1 k.bs r).1.k≠0:=by simpa[bk1]using hz
  refine⟨.nilFunc,(bk1 k.bs r).1,al,hb,last,l,d,by rw[zg];rfl,sb,H1,ok1,fun _=>⟨?_,.inl rfl⟩,fun h=>absurd h hk1⟩;have e2:bk2 k.bs r=((bk1 k.bs r).1,0):=U1 hk1;have e3:bk3 k.bs r=(bk1 k.bs r).1:=by unfold bk3;rw[e2];exact Cg hk1
  have eb:blk k.bs k.dl k.room k.sz F r al=((bk1 k.bs r).1,al):=by unfold blk;rw[e3,if_pos hk1]
  rw[eF,eb,jb hk1]
 ·rw[zg,zP]at hz;have hk1:(bk1 k.bs r).1.k=0:=by simpa[bk1]using hz
  obtain⟨oc,H2⟩:=H1.XZ (S:=S) ((tk k.bs 1 r).2==1) hsb;refine⟨by simp,oc,?_⟩;refine zb.mono (DC hib (G.sub sb) (hx.sub sb) L H2 hk1 2 (by omega)) ?_;rintro _ h3 ⟨rfl,H3⟩;have ok2:okR k.bs (bk2 k.bs r).1:=y7 ok1;have n2:=yp (bs:=k.bs) (n:=2) (r:=(bk1 k.bs r).1);have q2:(2:Int)^2=4:=by decide
  have e2:tk k.bs 2 (tk k.bs 1 r).1=bk2 k.bs r:=rfl;have e2':tk k.bs 2 (bk1 k.bs r).1=bk2 k.bs r:=rfl;have e1:(tk k.bs 1 r).2=(bk1 k.bs r).2:=rfl;rw[e2',q2]at n2;rw[e2,e1]at H3;rw[e2];refine⟨_,yh (bk2 k.bs r).1.k,zg,by rw[zg],fun hz=>?_,fun hz=>?_⟩
  ·rw[zg,zP]at hz;have hk2:(bk2 k.bs r).1.k≠0:=by simpa using hz
   refine⟨.nilFunc,(bk2 k.bs r).1,al,hb,_,l,d,by rw[zg],sb,H3,ok2,fun _=>⟨?_,.inl rfl⟩,fun h=>absurd h hk2⟩;have e3:bk3 k.bs r=(bk2 k.bs r).1:=Cg hk2;have eb:blk k.bs k.dl k.room k.sz F r al=((bk2 k.bs r).1,al):=by unfold blk;rw[e3,if_pos hk2]
   rw[eF,eb,jb hk2]
  ·rw[zg,zP]at hz;have hk2:(bk2 k.bs r).1.k=0:=by simpa using hz
   have ez:yh (bk2 k.bs r).1.k=.nilIface:=by rw[hk2];rfl
   have good:(bk2 k.bs r).2≠3->bk3 k.bs r=(bk2 k.bs r).1/\8*(k.bs.length:Int)+1<=(bk2 k.bs r).1.i+f'/\mz k (bk2 k.bs r).1+3<B:=fun h=>by
    have e3:bk3 k.bs r=(bk2 k.bs r).1:=by unfold bk3 bd;rw[if_neg (fun e=>h (by simpa using e.2))]
    have:=KL (bs:=k.bs) (r:=r) (by rw[e3];exact hk2);rw[e3]at this;have hm:=Ih (k:=k) (r:=r) (rr:=(bk2 k.bs r).1) (m:=3) (by omega) (ok2 hk2).2;exact⟨e3,by push_cast at hf;omega,by omega⟩
   refine⟨fun h0=>?_,fun h0=>⟨fun h1'=>?_,fun h1'=>⟨fun h2'=>?_,fun h2'=>?_⟩⟩⟩
   ·have h0:(bk2 k.bs r).2=0:=beq_iff_eq.1 h0;obtain⟨e3,hf2,hm2⟩:=good (by omega);refine⟨fnV k jd,(bk2 k.bs r).1,al,hb,_,l,d,by rw[ez];rfl,sb,H3,ok2,fun h=>absurd hk2 h,fun _=>⟨_,hm2,f',hf2,.inr (.inl ⟨rfl,rfl,?_⟩)⟩⟩;rw[eF];congr 1;unfold blk;rw[e3,if_neg (show ¬(bk2 k.bs r).1.k≠0 from fun h=>h hk2),if_pos h0]
   ·have h0:(bk2 k.bs r).2≠0:=by simpa using h0
    have h1':(bk2 k.bs r).2=1:=beq_iff_eq.1 h1';obtain⟨e3,hf2,hm2⟩:=good (by omega);refine⟨fnV k ji,(bk2 k.bs r).1,al,hb,_,l,d,by rw[ez];rfl,sb,H3,ok2,fun h=>absurd hk2 h,fun _=>⟨_,hm2,f',hf2,.inr (.inr (.inl ⟨rfl,rfl,?_⟩))⟩⟩;rw[eF];congr 1;unfold blk;rw[e3,if_neg (show ¬(bk2 k.bs r).1.k≠0 from fun h=>h hk2),if_neg h0,if_pos h1']
   ·have h0:(bk2 k.bs r).2≠0:=by simpa using h0
    have h1':(bk2 k.bs r).2≠1:=by simpa using h1'
    have h2':(bk2 k.bs r).2=2:=beq_iff_eq.1 h2';obtain⟨e3,hf2,hm2⟩:=good (by omega);refine⟨fnV k xT,(bk2 k.bs r).1,al,hb,_,l,d,by rw[ez];rfl,sb,H3,ok2,fun h=>absurd hk2 h,fun _=>⟨_,hm2,f',hf2,.inr (.inr (.inr (.inl ⟨rfl,rfl,?_⟩)))⟩⟩;rw[eF];congr 1;unfold blk;rw[e3,if_neg (show ¬(bk2 k.bs r).1.k≠0 from fun h=>h hk2),if_neg h0,if_neg h1']
   ·have h0:(bk2 k.bs r).2≠0:=by simpa using h0
    have h1':(bk2 k.bs r).2≠1:=by simpa using h1'
    have h2':(bk2 k.bs r).2≠2:=by simpa using h2'
    have e3:bk3 k.bs r=⟨(bk2 k.bs r).1.i,3⟩:=by unfold bk3 bd;rw[if_pos ⟨hk2,by rw[show(bk2 k.bs r).2=3 by omega];rfl⟩]
    refine⟨3,((G.sub sb).sub H3.sb).e3,.nilFunc,⟨(bk2 k.bs r).1.i,3⟩,al,hb,_,l,d,rfl,sb,H3.Ii (show(3:Int)≠0 by decide),fun h=>(by cases h),fun _=>⟨?_,.inl rfl⟩,fun h=>(by cases h)⟩;have eb:blk k.bs k.dl k.room k.sz F r al=(⟨(bk2 k.bs r).1.i,3⟩,al):=by unfold blk;rw[e3,if_pos (show(3:Int)≠0 by decide)]
    rw[eF,eb,jb (show(3:Int)≠0 by decide)]
end
end
section
section
variable {k:KC}{Fin:Rd × List Int}
theorem Rj(hi:qaC S hb)(L:k.bs.length<=1048576)(H:IM hb h k r al last l d)(hk:r.k=0) :
  zb oPP S jj #[.pointer (some ⟨k.bm,0,none⟩)] h (fun v h'=>v=.tuple #[]/\IM hb h' k (alg r) al last l d):=by
 refine DH (vs:=[.pointer (some ⟨k.bm,0,none⟩)]) ⟨rfl,trivial⟩ (hi.sub H.sb) ?_;simp only[Az,Tr.wp,Ex.ev,coerce,toInt_int,za,zf,zx,xb,arith,Cst.val,SV.den,zy,zq,yk,vA,vB,vD,vE,vI,vH,Nat.zero_add,Nat.add_zero,and_true,true_and,zu];obtain⟨p,ao,co,hp,hr,hbm,P,N⟩:=H.mt;obtain⟨_,g1,_⟩:=yO hbm;have hsb:¬S k.bm:=fun hs=>hi k.bm hs H.nm
 have w:IntKind.i64.wrap (IntKind.i64.wrap ((IntKind.i64.wrap ((p:Int)+7)).tdiv 8)*8)=(((p+7)/8*8:Nat):Int):=by
  rw[i64_in ((p:Int)+7) (by omega),Int.tdiv_eq_ediv_of_nonneg (by omega),i64_in (((p:Int)+7)/8) (by omega),i64_in _ (by omega)];omega
 refine⟨by simp,p,g1,by simp,kS hbm hsb g1,?_⟩;rw[w,MW hbm];have ea:alg r=⟨(r.i+7)/8*8,0⟩:=if_pos hk;exact H.Pm (r':=alg r) (p:=(p+7)/8*8) (by omega) (fun _=>by rw[ea];have:=hr hk;simp only;omega) P N
theorem IM.sub(H:IM hb h k r al last l d)(s:qaB h h'):IM hb h' k r al last l d:=by
 obtain⟨p,ao,co,hp,hr,hbm,P,N⟩:=H.mt;exact⟨⟨p,ao,co,hp,hr,s _ _ hbm,P.sub s,N⟩,H.rg.mono s,H.nm,H.ne,H.sb.trans s,H.le⟩
theorem IM.fresh(H:IM hb h k r al last l d)(hbn:h b=none){o:Obj}:∀z,zh (.slice (some ⟨b,0,none⟩) n c)=some z->z≠k.bm/\z≠k.bw/\(∀p ao co,upd h b o k.bm=some (zX k.a k.c k.bs p (xk k al (.slice ao (k.otl al).length co) last l d) k.T)->zh (.slice ao (k.otl al).length co)≠some z):=fun z hz=>by
 obtain rfl:b=z:=by simpa[zh]using hz
 obtain⟨p,ao,co,hp,hr,hbm,P,N⟩:=H.mt;obtain⟨dd,at_,nn,hbw,_,_,_⟩:=H.rg;have n1:b≠k.bm:=fun e=>by rw[e,hbm]at hbn;cases hbn
 have n2:b≠k.bw:=fun e=>by rw[e,hbw]at hbn;cases hbn
 refine⟨n1,n2,fun p' ao' co' e hz=>?_⟩;rw[upd_ne (Ne.symm n1),hbm]at e;simp[zX,xk]at e;obtain⟨_,e1,e2⟩:=e;subst e1;subst e2;exact tB.Oheld P (show tB.B _ b from hz) hbn
theorem Fj(h:r.k≠0):stL bs dl room n r al=(r,al):=by
 cases n with
 | zero=>rfl
 | succ n=>rw[stL,if_neg h]
theorem Wj(h:r.k≠0):tell dl room r al ys=(r,al):=by unfold tell;rw[if_neg h]
theorem Wk(hi:qaC S h0)(G:ErrL h0)(hro:k.room<=200000)(hdl:k.dl<=40000)(hx:zo h0 .u8 k.a k.bs)(L:k.bs.length<=1048576)(sb:qaB h0 hb)(H:IM hb h k r al last l d)(hk:r.k=0)(ok:okR k.bs r)(f:Nat)(hf:8*(k.bs.length:Int)+1<=r.i+f)(hB:mz k r+3<=B)(hF:Fin=cont k F f last (stF k.bs k.dl k.room r al)) :
  zb oPP S jd #[.pointer (some ⟨k.bm,0,none⟩)] h (Eh h0 k F Fin B):=by
 refine Dq (vs:=[.pointer (some ⟨k.bm,0,none⟩)]) ⟨rfl,trivial⟩ (hi.sub (sb.trans H.sb)) ?_;simp only[Ab,Tr.wp,z4,Ex.ev,coerce,toInt_int,za,zc,ze,zd,zf,zx,z9,arith,Cst.val,SV.den,zn,zL,zz,zk,zi,zy,zV,zq,vF,vG,vA,vB,vC,List.getElem?_cons_succ,decide_eq_true_eq,decide_eq_false_iff_not,vD,vE,vI,vH,vJ,List.length_cons,List.length_nil,Nat.zero_add,Nat.add_zero,and_true,if_true,if_false,vK,zu];have hib:=hi.sub sb;have Gb:=G.sub sb;have hxb:=hx.sub sb;have ok0:=Bg ok;have hk0:(alg r).k=0:=by unfold alg;rw[if_pos hk]
 have n16:=yp (bs:=k.bs) (n:=16) (r:=alg r);have q16:(2:Int)^16=65536:=by decide
 refine zb.mono (Rj hib L H hk) ?_;rintro _ h1 ⟨rfl,H1⟩;refine⟨rfl,?_⟩;refine zb.mono (DC hib Gb.es hxb L H1 hk0 16 (by omega)) ?_;rintro _ h2 ⟨rfl,H2⟩;have ok1:okR k.bs (tk k.bs 16 (alg r)).1:=y7 ok0;refine⟨_,yh (tk k.bs 16 (alg r)).1.k,zg,by rw[zg],fun hz=>?_,fun hz=>?_⟩
 ·rw[zg,zP]at hz;have hk1:(tk k.bs 16 (alg r)).1.k≠0:=by simpa using hz
  refine⟨.nilFunc,_,al,hb,last,l,d,by rw[zg],sb,H2,ok1,fun _=>⟨?_,.inl rfl⟩,fun h=>absurd h hk1⟩;have e2:stR k.bs r=(tk k.bs 16 (alg r)).1:=by unfold stR;rw[U1 hk1];exact Cg hk1
  have es:stF k.bs k.dl k.room r al=((tk k.bs 16 (alg r)).1,al):=by unfold stF;rw[e2,Fj hk1]
  rw[hF,es,jb hk1]
 rw[zg,zP]at hz;have hk1:(tk k.bs 16 (alg r)).1.k=0:=by simpa using hz
 refine zb.mono (DC hib Gb.es hxb L H2 hk1 16 (by omega)) ?_;rintro _ h3 ⟨rfl,H3⟩;have ok2:okR k.bs (tk k.bs 16 (tk k.bs 16 (alg r)).1).1:=y7 ok1;refine⟨_,yh (tk k.bs 16 (tk k.bs 16 (alg r)).1).1.k,zg,by rw[zg],fun hz=>?_,fun hz=>?_⟩
 ·rw[zg,zP]at hz;have hk2:(tk k.bs 16 (tk k.bs 16 (alg r)).1).1.k≠0:=by simpa using hz
  refine⟨.nilFunc,_,al,hb,last,l,d,by rw[zg],sb,H3,ok2,fun _=>⟨?_,.inl rfl⟩,fun h=>absurd h hk2⟩;have e2:stR k.bs r=(tk k.bs 16 (tk k.bs 16 (alg r)).1).1:=Cg hk2;have es:stF k.bs k.dl k.room r al=((tk k.bs 16 (tk k.bs 16 (alg r)).1).1,al):=by unfold stF;rw[e2,Fj hk2]
  rw[hF,es,jb hk2]
 rw[zg,zP]at hz;have hk2:(tk k.bs 16 (tk k.bs 16 (alg r)).1).1.k=0:=by simpa using hz
 have w1:IntKind.i64.wrap (65535-(tk k.bs 16 (alg r)).2)=65535-(tk k.bs 16 (alg r)).2:=i64_in _ (by omega);rw[w1];have eR:stR k.bs r=bd ((tk k.bs 16 (tk k.bs 16 (alg r)).1).2 != 65535-(tk k.bs 16 (alg r)).2) (tk k.bs 16 (tk k.bs 16 (alg r)).1).1:=rfl;refine⟨fun hne=>?_,fun heq=>?_⟩
 ·have e3:stR k.bs r=⟨(tk k.bs 16 (tk k.bs 16 (alg r)).1).1.i,3⟩:=by rw[eR];unfold bd;rw[if_pos ⟨hk2,hne⟩]
  have es:stF k.bs k.dl k.room r al=(⟨(tk k.bs 16 (tk k.bs 16 (alg r)).1).1.i,3⟩,al):=by unfold stF;rw[e3,Fj (show(3:Int)≠0 by decide)]
  refine⟨3,(Gb.sub H3.sb).es.e3,.nilFunc,⟨(tk k.bs 16 (tk k.bs 16 (alg r)).1).1.i,3⟩,al,hb,last,l,d,rfl,sb,H3.Ii (show(3:Int)≠0 by decide),fun h=>(by cases h),fun _=>⟨?_,.inl rfl⟩,fun h=>(by cases h)⟩;rw[hF,es,jb (show(3:Int)≠0 by decide)]
 have e3:stR k.bs r=(tk k.bs 16 (tk k.bs 16 (alg r)).1).1:=by rw[eR];unfold bd;rw[if_neg (fun h=>by rw[heq]at h;cases h.2)]
 have hR:le2 r (stR k.bs r):=((Ur.trans xq).trans xq).trans xj;obtain⟨n,hn⟩:∃n:Nat,n=(stN k.bs r).toNat:=⟨_,rfl⟩;have en:(tk k.bs 16 (alg r)).2=(n:Int):=by rw[hn];unfold stN;omega
 have hnl:n<65536:=by omega
 rw[<-e3]at H3 ok2 hk2;rw[en];have eSt:stF k.bs k.dl k.room r al=stL k.bs k.dl k.room n (stR k.bs r) al:=by unfold stF;rw[hn]
 refine⟨fun us h'=>∃(j:Nat) (r':Rd) (al':List Int),us=[.int .i64 j]/\j<=n/\r'.k=0/\okR k.bs r'/\IM hb h' k r' al' last l d/\le2 r r'/\stF k.bs k.dl k.room r al=stL k.bs k.dl k.room (n-j) r' al',fun us _=>n-(toInt (us.getD 0 undef)).toNat,⟨0,stR k.bs r,al,rfl,by omega,hk2,ok2,H3,hR,eSt⟩,?_⟩;rintro y h' ⟨j,r',al',hx1,hj,hk',ok',H',hle',e'⟩;simp only[List.cons.injEq,Value.int.injEq,true_and,and_true]at hx1;subst hx1;refine⟨fun hlt=>?_,fun hge=>?_⟩
 ·have hlt:j<n:=by omega
  have n8:=yp (bs:=k.bs) (n:=8) (r:=r');have q8:(2:Int)^8=256:=by decide
  have el:stF k.bs k.dl k.room r al=stL k.bs k.dl k.room (n-(j+1)) (tell k.dl k.room (tk k.bs 8 r').1 al' [(tk k.bs 8 r').2]).1 (tell k.dl k.room (tk k.bs 8 r').1 al' [(tk k.bs 8 r').2]).2:=by
   rw[e',show n-j=(n-(j+1))+1 by omega,stL,if_pos hk']
  refine zb.mono (DC hib Gb.es hxb L H' hk' 8 (by omega)) ?_;rintro _ h4 ⟨rfl,H4⟩;have ok4:okR k.bs (tk k.bs 8 r').1:=y7 ok';refine⟨_,yh (tk k.bs 8 r').1.k,zg,by rw[zg],fun hz=>?_,fun hz b hbn=>?_⟩
  ·rw[zg,zP]at hz;have hk4:(tk k.bs 8 r').1.k≠0:=by simpa using hz
   refine⟨.nilFunc,_,al',hb,last,l,d,by rw[zg],sb,H4,ok4,fun _=>⟨?_,.inl rfl⟩,fun h=>absurd h hk4⟩;rw[hF,el,Wj hk4,Fj hk4,jb hk4]
  ·rw[zg,zP]at hz;have hk4:(tk k.bs 8 r').1.k=0:=by simpa using hz
   have wb:IntKind.u8.wrap (tk k.bs 8 r').2=(tk k.bs 8 r').2:=by rw[IntKind.wrap_u8];omega
   rw[wb];have H5:=H4.sub (Sub.zC (o:=.cells (ints .u8 [(tk k.bs 8 r').2]) 5) hbn);refine zb.mono (U0 hib Gb hro hdl H5 hk4 (ad:=some ⟨b,0,none⟩) (cd:=1) (ys:=[(tk k.bs 8 r').2]) zo.new (by simp) (by simp) (H4.fresh hbn)) ?_;rintro _ h6 ⟨rfl,H6⟩;refine⟨yh (tell k.dl k.room (tk k.bs 8 r').1 al' [(tk k.bs 8 r').2]).1.k,zg,by rw[zg],fun hz=>?_,fun hz=>?_⟩
   ·rw[zg,zP]at hz;have hk6:(tell k.dl k.room (tk k.bs 8 r').1 al' [(tk k.bs 8 r').2]).1.k≠0:=by simpa using hz
    refine⟨.nilFunc,_,_,hb,last,l,d,by rw[zg],sb,H6,wN ok4,fun _=>⟨?_,.inl rfl⟩,fun h=>absurd h hk6⟩;rw[hF,el,Fj hk6,jb hk6]
   ·rw[zg,zP]at hz;have hk6:(tell k.dl k.room (tk k.bs 8 r').1 al' [(tk k.bs 8 r').2]).1.k=0:=by simpa using hz
    have wj:IntKind.i64.wrap ((j:Int)+1)=((j+1:Nat):Int):=zr;rw[wj];exact⟨⟨j+1,_,_,rfl,by omega,hk6,wN ok4,H6,(hle'.trans xq).trans AA,el⟩,by simp only[vA,toInt_int,Int.toNat_natCast];omega⟩
 ·obtain rfl:j=n:=by omega
  have ez:yh r'.k=.nilIface:=by rw[hk'];rfl
  refine⟨fnV k x8,r',al',hb,last,l,d,by rw[ez];rfl,sb,H',ok',fun h=>absurd hk' h,fun _=>⟨_,(by have hm:=Ih (k:=k) (r:=r) (rr:=r') (m:=0) (by have:=(hle' hk').2;omega) (ok' hk').2;omega:mz k r'+1<B),f,by have:=(hle' hk').2;omega,.inr (.inr (.inr (.inr (.inr (.inl ⟨rfl,rfl,?_⟩)))))⟩⟩;rw[hF,e',Nat.sub_self];rfl
end
end
section
def wo(h:qaA)(ls:List Nat):qaA:=fun b=>if b∈ls then none else h b
theorem Ob:qaB (wo h ls) h:=fun b o e=>by
 unfold wo at e;split at e
 ·cases e
 ·exact e
theorem Sx(s:qaB g h)(hn:∀b∈ls,g b=none):qaB g (wo h ls):=fun b o e=>by
 unfold wo;rw[if_neg (fun hb=>by rw[hn b hb]at e;cases e)];exact s b o e
theorem KR(hb:b∈ls):wo h ls b=none:=if_pos hb
theorem Pp(hb:b∉ls):wo h ls b=h b:=if_neg hb
theorem TabV.up{T P:List (Nat×Nat)}{E:Nat->Nat->Prop}(H:TabV g1 g2 b T P a c E Y){g0:qaA}(hn:∀z,g1 z=none->g0 z=none)(hs:∀z,z=b\/zh (.slice a T.length c)=some z->g3 z=g2 z)(s:qaB g0 g3):TabV g0 g3 b T P a c E Y:=
 ⟨by obtain⟨TY,hb⟩:=H.hb;exact⟨TY,(hs b (.inl rfl)).trans hb⟩,H.ow.keep fun z hz=>hs z (.inr hz),fun z hz=>hn z (H.nw z hz),hn b H.nb,H.ne,H.ti,s⟩
theorem TabV.Sy{T P:List (Nat×Nat)}{E:Nat->Nat->Prop}(H:TabV g1 g2 b T P a c E Y)(s:qaB g2 g3):TabV g1 g3 b T P a c E Y:=by
 refine H.up (fun _ h=>h) (fun z hz=>?_) (H.sb.trans s);rcases hz with rfl | hz
 ·obtain⟨TY,hb⟩:=H.hb;rw[hb];exact s _ _ hb
 ·have:=H.ow.held z hz;cases e:g2 z with
  | none=>exact absurd e this
  | some o=>exact s _ _ e
theorem Wl{m:MC}{v w:Value}(hb:h bm=some (zX a c bs p m T)):zQ (zQ h ⟨bm,6,none⟩ v) ⟨bm,7,none⟩ w=upd h bm (zX a c bs p ⟨m.w,m.out,m.rm,m.last,v,w⟩ T):=by
 rw[hset_cells' hb];have hb2:upd h bm (.cells (#[.slice a bs.length c,.int .i64 p,m.w,m.out,.int .i64 m.rm,.bool m.last,m.l,m.d].setIfInBounds 6 v) T) bm=some (zX a c bs p ⟨m.w,m.out,m.rm,m.last,v,m.d⟩ T):=by rw[upd_same];rfl
 rw[hset_cells' hb2,xw];rfl
section
variable {k:KC}{Fin:Rd × List Int}
theorem IM.Xb{h2:qaA}(H:IM hb h k r al last l d)(sb:qaB h0 hb)(s12:qaB h h2){b1 b2:Nat}{T1 P1 T2 P2:List (Nat×Nat)}
  (V1:TabV h h2 b1 T1 P1 a1 c1 (Em cl cl.length) (Ym cl cl.length))(V2:TabV h h2 b2 T2 P2 a2 c2 (Em cd cd.length) (Ym cd cd.length))(t1:T1.length<=20000)(t2:T2.length<=20000)(m1:∀c∈cl,c.1<=15)(m2:∀c∈cd,c.1<=15)(l1:cl.length<=1000)(l2:cd.length<=1000) :
  ∃hb2,qaB h0 hb2/\IM hb2 (zQ (zQ h2 ⟨k.bm,6,none⟩ (.pointer (some ⟨b1,0,none⟩))) ⟨k.bm,7,none⟩ (.pointer (some ⟨b2,0,none⟩))) k r al last (.pointer (some ⟨b1,0,none⟩)) (.pointer (some ⟨b2,0,none⟩))/\Po h0 hb2 (.pointer (some ⟨b1,0,none⟩)) (.pointer (some ⟨b2,0,none⟩)) cl cd:=by
 obtain⟨p,ao,co,hp,hr,hbm,P,N⟩:=H.mt;obtain⟨dd,at_,nn,hbw,R,sR,hnw⟩:=H.rg;have hbm2:=s12 _ _ hbm;rw[Wl hbm2];obtain⟨h3,hh3⟩:∃h3,h3=upd h2 k.bm (zX k.a k.c k.bs p ⟨(xk k al (.slice ao (k.otl al).length co) last l d).w,(xk k al (.slice ao (k.otl al).length co) last l d).out,(xk k al (.slice ao (k.otl al).length co) last l d).rm,(xk k al (.slice ao (k.otl al).length co) last l d).last,.pointer (some ⟨b1,0,none⟩),.pointer (some ⟨b2,0,none⟩)⟩ k.T):=⟨_,rfl⟩;rw[<-hh3];obtain⟨ls,hls⟩:∃ls,ls=[k.bm,k.bw]++(zh (.slice ao (k.otl al).length co)).toList:=⟨_,rfl⟩;have mem:∀z,z∈ls<->z=k.bm\/z=k.bw\/zh (.slice ao (k.otl al).length co)=some z:=fun z=>by
  rw[hls];cases zh (.slice ao (k.otl al).length co)with
  | none=>simp
  | some y=>simp[eq_comm]
 have hbn:∀z∈ls,hb z=none:=fun z hz=>by
  rcases(mem z).1 hz with rfl | rfl | e
  ·exact H.nm
  ·exact hnw
  ·exact(IM.xH N e).2.2
 have some1:∀z∈ls,h z≠none:=fun z hz=>by
  rcases(mem z).1 hz with rfl | rfl | e
  ·rw[hbm];simp
  ·rw[hbw];simp
  ·exact tB.Oheld P (show tB.B _ z from e)
 have h32:∀z,z≠k.bm->h3 z=h2 z:=fun z hz=>by rw[hh3];exact upd_ne hz
 have s3:qaB hb h3:=by rw[hh3];exact xJ (H.sb.trans s12) H.nm
 have sb2:qaB hb (wo h3 ls):=Sx s3 hbn;have P2':Part .u8 h3 (.slice ao (k.otl al).length co) (k.otl al):=(P.sub s12).keep fun z hz=>h32 z (IM.xH N hz).1
 have tab:∀ {b:Nat} {TT PP:List (Nat×Nat)} {aa:Option Addr} {cc:Nat} {E:Nat->Nat->Prop} {Y:Nat->Nat->Nat},TabV h h2 b TT PP aa cc E Y->TabV h0 (wo h3 ls) b TT PP aa cc E Y:=fun V=>by
  refine V.up (fun z hz=>ya (sb.trans H.sb) hz) (fun z hz=>?_) (sb.trans sb2);have hzn:h z=none:=by
   rcases hz with rfl | hz
   ·exact V.nb
   ·exact V.nw z hz
  have hzl:z∉ls:=fun hm=>some1 z hm hzn
  rw[Pp hzl];exact h32 z (fun e=>hzl ((mem z).2 (.inl e)))
 refine⟨wo h3 ls,sb.trans sb2,⟨⟨p,ao,co,hp,hr,by rw[hh3,upd_same];rfl,P2',fun z hz=>Au.2 ⟨?_,KR ((mem z).2 (.inr (.inr hz)))⟩⟩,⟨dd,at_,nn,(h32 k.bw (Ne.symm H.ne)).trans (s12 _ _ hbw),R,Ob,KR ((mem _).2 (.inr (.inl rfl)))⟩,KR ((mem _).2 (.inl rfl)),H.ne,Ob,H.le⟩,b1,b2,T1,P1,T2,P2,a1,a2,c1,c2,rfl,rfl,tab V1,tab V2,t1,t2,m1,m2,l1,l2⟩;have:=IM.xH N hz;simp[this.1,this.2.1]
end
end
section
theorem Pq{m:MC}(hb:h bm=some (zX a c bs p m T))(hs:¬S bm):xE S (zQ h ⟨bm,6,none⟩ v) ⟨bm,7,none⟩:=by
 rw[hset_cells' hb];have e:upd h bm (.cells (#[.slice a bs.length c,.int .i64 p,m.w,m.out,.int .i64 m.rm,.bool m.last,m.l,m.d].setIfInBounds 6 v) T) bm=some (zX a c bs p ⟨m.w,m.out,m.rm,m.last,v,m.d⟩ T):=by rw[upd_same];rfl
 obtain⟨_,_,_,_,_,_,_,g⟩:=yO e;exact kS e hs g
theorem codesN_15'(hg:¬(zt xs=0\/zt xs=2)):∀c∈zl xs,c.1<=15:=MY (we hg).2
section
variable {k:KC}{Fin:Rd × List Int}
theorem Yb(hi:qaC S h0)(L:k.bs.length<=1048576)(sb:qaB h0 hb)(H:IM hb h k r al last l d)(hk:r.k=0)(ok:okR k.bs r)(hFl:8*k.bs.length+1<=F)(f:Nat)(hf:8*(k.bs.length:Int)+1<=r.i+f)(hB:mz k r+3<=B)(hF:Fin=cont k F f last (syF k.bs (zl yV) (zl kU) k.dl k.room k.sz F r al)) :
  zb oPP S ji #[.pointer (some ⟨k.bm,0,none⟩)] h (Eh h0 k F Fin B):=by
 refine DJ (vs:=[.pointer (some ⟨k.bm,0,none⟩)]) ⟨rfl,trivial⟩ (hi.sub (sb.trans H.sb)) ?_;simp only[A6,Tr.wp,z4,Ex.ev,coerce,za,zc,ze,zd,zf,zx,xb,Cst.val,SV.den,zn,zL,zz,zk,zi,zy,yk,vF,vG,vA,vB,vD,vE,vI,vH,vJ,List.length_cons,List.length_nil,Nat.zero_add,Nat.add_zero,if_true,if_false,vK,zu];have his:=hi.sub (sb.trans H.sb);have hsb:¬S k.bm:=fun hs=>hi.sub sb k.bm hs H.nm
 have hpos:=ok hk;refine zb.mono (Q8 his) ?_;rintro _ h1 ⟨a1,c1,a2,c2,rfl,P1,P2,N1,N2,s1⟩;refine⟨_,_,_,_,_,_,rfl,?_⟩;have e288:(288:Nat)=yV.length:=qn.symm;have K1:=Cd (S:=S) (his.sub s1) a1 c1 yV (by rw[qn];exact P1) Pc Ht;rw[qn]at K1;refine zb.mono K1 ?_;rintro _ h2 ⟨b1,T1,Q1,d1,e1,rfl,V1,t1⟩;refine⟨_,rfl,?_⟩;have s2:=V1.sb;have K2:=Cd (S:=S) (his.sub (s1.trans s2)) a2 c2 kU (by rw[show kU.length=32 by simp[kU]];exact P2.sub s2) (by show kU.length<=1048576;simp[kU]) (by rw[Hv];decide);rw[show kU.length=32 by simp[kU]]at K2;refine zb.mono K2 ?_;rintro _ h3 ⟨b2,T2,Q2,d2,e2,rfl,V2,t2⟩;refine⟨_,rfl,?_⟩;have s3:=V2.sb;have s13:=s1.trans (s2.trans s3);obtain⟨p,ao,co,hp,hr,hbm,P,N⟩:=H.mt;have hbm3:=s13 _ _ hbm;obtain⟨_,_,_,_,_,_,g6,_⟩:=yO hbm3;have le1:(zl yV).length=288:=by rw[xA,qn]
 have le2':(zl kU).length=32:=by rw[xA];simp[kU]
 rw[<-le1]at V1;rw[<-le2']at V2;have W1:TabV h h3 b1 T1 Q1 d1 e1 (Em (zl yV) (zl yV).length) (Ym (zl yV) (zl yV).length):=(V1.Sy s3).up (fun z hz=>ya s1 hz) (fun _ _=>rfl) s13;have W2:TabV h h3 b2 T2 Q2 d2 e2 (Em (zl kU) (zl kU).length) (Ym (zl kU) (zl kU).length):=V2.up (fun z hz=>ya (s1.trans s2) hz) (fun _ _=>rfl) s13;obtain⟨hb2,sb2,H4,TA⟩:=H.Xb sb s13 W1 W2 t1 t2 (codesN_15' Ht) (codesN_15' (by rw[Hv];decide)) (by omega) (by omega);have ez:yh r.k=.nilIface:=by rw[hk];rfl
 refine⟨by simp,kS hbm3 hsb g6,by simp,Pq hbm3 hsb,?_⟩;refine⟨fnV k yG,r,al,hb2,last,_,_,by rw[ez];rfl,sb2,H4,ok,fun h=>absurd hk h,fun _=>⟨_,(by omega:mz k r+2<B),f,hf,.inr (.inr (.inr (.inr (.inl ⟨rfl,rfl,_,_,F,TA,by omega,hF⟩))))⟩⟩
theorem U4(hi:qaC S h0)(G:Errs h0)(hx:zo h0 .u8 k.a k.bs)(L:k.bs.length<=1048576)(sb:qaB h0 hb)(H:IM hb h k r al last l d)(hk:r.k=0)(ok:okR k.bs r)(hFl:8*k.bs.length+1<=F)(f:Nat)(hf:8*(k.bs.length:Int)+1<=r.i+f)(hB:mz k r+3<=B)
  (hF:Fin=cont k F f last (if(zN k.bs r).1.k≠0 then((zN k.bs r).1,al)else syF k.bs (zl (zN k.bs r).2.1) (zl (zN k.bs r).2.2) k.dl k.room k.sz F (zN k.bs r).1 al)) :
  zb oPP S xT #[.pointer (some ⟨k.bm,0,none⟩)] h (Eh h0 k F Fin B):=by
 refine CI (vs:=[.pointer (some ⟨k.bm,0,none⟩)]) ⟨rfl,trivial⟩ (hi.sub (sb.trans H.sb)) ?_;simp only[wO,Tr.wp,z4,Ex.ev,coerce,za,zc,ze,zd,zf,zx,xb,Cst.val,SV.den,zn,zL,zz,zk,zi,zy,yk,vF,vG,vA,vB,vD,vE,vI,vH,vJ,List.length_cons,List.length_nil,Nat.zero_add,Nat.add_zero,if_true,if_false,vK,zu];have hib:=hi.sub sb;have hsb:¬S k.bm:=fun hs=>hib k.bm hs H.nm
 have hpos:=ok hk;obtain⟨p,ao,co,hp,hr,hbm,P,N⟩:=H.mt;obtain⟨dd,at_,nn,hbw,R,sR,hnw⟩:=H.rg;obtain⟨g,hg⟩:∃g,g=wo h [k.bm]:=⟨_,rfl⟩;have sbg:qaB hb g:=hg▸Sx H.sb (fun b hb'=>by rw[List.mem_singleton.1 hb'];exact H.nm);have sgh:qaB g h:=hg▸Ob;have gb:g k.bm=none:=hg▸KR (List.mem_singleton.2 rfl);have gne:∀z,z≠k.bm->g z=h z:=fun z hz=>by rw[hg];exact Pp (fun hm=>hz (List.mem_singleton.1 hm))
 have er:r=⟨(p:Int),0⟩:=by
  obtain⟨i,kk⟩:=r;obtain rfl:kk=0:=hk;rw[show i=(p:Int) from hr rfl]
 refine zb.mono (XR (hib.sub sbg) ((G.sub sb).sub sbg) ((hx.sub sb).sub sbg) L p hp ⟨hbm,gb,sgh⟩) ?_;rw[<-er];have okF:=AB ok;have leF:le2 r (zN k.bs r).1:=FM;have good:=KJ (bs:=k.bs) (r:=r);obtain⟨lenA,yL⟩:=KI (bs:=k.bs) (r:=r);generalize zN k.bs r=X at hF okF leF good lenA yL ⊢;rintro _ h1 ⟨u,w,rfl,⟨p',hp',M1,hpi⟩,hP,⟨a1,l1,c1,a2,l2,c2,rfl,rfl⟩⟩;have sg1:=M1.sb;have hkeep:∀z,z≠k.bm->h z≠none->h1 z=h z:=fun z hz hn=>by
  cases e:h z with
  | none=>exact absurd e hn
  | some o=>exact sg1 z o ((gne z hz).trans e)
 have H1:IM hb h1 k X.1 al last l d:=⟨⟨p',ao,co,hp',hpi,M1.hb,P.keep fun z hz=>hkeep z (IM.xH N hz).1 (tB.Oheld P (show tB.B _ z from hz)),N⟩,⟨dd,at_,nn,(hkeep k.bw (Ne.symm H.ne) (by rw[hbw];simp)).trans hbw,R,sbg.trans sg1,hnw⟩,H.nm,H.ne,sbg.trans sg1,H.le⟩;refine⟨_,_,_,_,_,_,yh X.1.k,zg,by rw[zg],fun hz=>?_,fun hz=>?_⟩
 ·rw[zg,zP]at hz;have hk1:X.1.k≠0:=by simpa using hz
  refine⟨.nilFunc,X.1,al,hb,last,l,d,by rw[zg],sb,H1,okF,fun _=>⟨?_,.inl rfl⟩,fun h=>absurd h hk1⟩;rw[hF,if_pos hk1,jb hk1]
 rw[zg,zP]at hz;have hk1:X.1.k=0:=by simpa using hz
 rw[if_neg (fun h=>h hk1)]at hF;obtain⟨P1,P2,N1,N2⟩:=hP hk1;obtain⟨g1,g2⟩:=good hk1;obtain⟨_,_,ei,_,_⟩:=P1.ints;cases ei
 obtain⟨_,_,ei,_,_⟩:=P2.ints;cases ei
 have his1:=hib.sub H1.sb;refine zb.mono (Cd (S:=S) his1 a1 c1 X.2.1 P1 (Nat.le_trans lenA (by decide)) g1) ?_;rintro _ h2 ⟨b1,T1,Q1,d1,e1,rfl,V1,t1⟩;refine⟨_,rfl,?_⟩;have s2:=V1.sb;refine zb.mono (Cd (S:=S) (his1.sub s2) a2 c2 X.2.2 (P2.sub s2) (Nat.le_trans yL (by decide)) g2) ?_;rintro _ h3 ⟨b2,T2,Q2,d2,e2,rfl,V2,t2⟩;refine⟨_,rfl,?_⟩;have s3:=V2.sb;have s13:=s2.trans s3;have hbm3:=s13 _ _ M1.hb;obtain⟨_,_,_,_,_,_,g6,_⟩:=yO hbm3;rw[<-xA (xs:=X.2.1)]at V1;rw[<-xA (xs:=X.2.2)]at V2;have W1:=V1.Sy s3;have W2:TabV h1 h3 b2 T2 Q2 d2 e2 (Em (zl X.2.2) (zl X.2.2).length) (Ym (zl X.2.2) (zl X.2.2).length):=V2.up (fun z hz=>ya s2 hz) (fun _ _=>rfl) s13;obtain⟨hb2,sb2,H4,TA⟩:=H1.Xb sb s13 W1 W2 t1 t2 (codesN_15' g1) (codesN_15' g2) (by rw[xA];omega) (by rw[xA];omega);have ez:yh X.1.k=.nilIface:=by rw[hk1];rfl
 have hpos2:=okF hk1;have hle:=(leF hk1).2;refine⟨by simp,kS hbm3 hsb g6,by simp,Pq hbm3 hsb,?_⟩;refine⟨fnV k yG,X.1,al,hb2,last,_,_,by rw[ez];rfl,sb2,H4,okF,fun h=>absurd hk1 h,fun _=>⟨_,(by have hm:=Ih (k:=k) (r:=r) (rr:=X.1) (m:=0) (by omega) hpos2.2;omega:mz k X.1+2<B),f,by omega,.inr (.inr (.inr (.inr (.inl ⟨rfl,rfl,_,_,F,TA,by omega,hF⟩))))⟩⟩
end
end
section
theorem Mj{L:List Int}(h1:1<=D)(h2:D<=L.length):∀n,ja D L n=L++cpD L D n
 | 0=>by simp[ja,cpD]
 | n+1=>by
  have ih:=Mj h1 h2 n;have hX:(L++cpD L D n).length=L.length+n:=by rw[List.length_append,CO]
  rw[ja,ih,hX,Pk,<-List.append_assoc];congr 2;by_cases hn:n<D
  ·simp only[List.getD];rw[Nat.mod_eq_of_lt hn,List.getElem?_append_left (by omega),show L.length+n-D=L.length-D+n by omega]
  ·simp only[List.getD];rw[List.getElem?_append_right (by omega),show L.length+n-D-L.length=n-D by omega];have hm:(n-D)%D=n%D:=by rw[<-Nat.add_mod_right (n-D) D,Nat.sub_add_cancel (by omega)]
   rw[<-hm];simp[cpD,List.getD,show n-D<n by omega]
theorem Ps(h1:1<=D)(h2:D<=(zB sz al).length):cpD (zB sz al) D n=cpD al D n:=by
 unfold cpD;apply List.map_congr_left;intro j _;have hm:j%D<D:=Nat.mod_lt _ (by omega);have hl:=je (n:=sz) (L:=al);rw[hl];rw[hl]at h2;unfold zB;simp only[List.getD,List.getElem?_drop];rw[show al.length-sz+(min al.length sz-D+j%D)=al.length-D+j%D by omega]
theorem Zu:∀s:Fin 286,257<=s.1->(yL s.1).1+2^(yL s.1).2<=259:=by decide +kernel
section
variable {k:KC}{Fin:Rd × List Int}
theorem U5(hi:qaC S h0)(G:Errs h0)(hx:zo h0 .u8 k.a k.bs)(L:k.bs.length<=1048576)(sb:qaB h0 hb)(H:IM hb h k r al last l d)(hk:r.k=0){bt:Nat}{TT PP:List (Nat×Nat)}(TV:TabV h0 hb bt TT PP a2 c2 (Em cs cs.length) (Ym cs cs.length))(hTl:TT.length<=20000)(hM:∀c∈cs,c.1<=15)(hcl:cs.length<=1000) :
  zb oPP S yY #[.pointer (some ⟨k.bm,0,none⟩),.pointer (some ⟨bt,0,none⟩)] h (fun v h'=>v=.tuple #[.int .i64 (sy k.bs cs r).2,yh (sy k.bs cs r).1.k]/\IM hb h' k (sy k.bs cs r).1 al last l d):=by
 obtain⟨p,ao,co,hp,hr,hbm,P,N⟩:=H.mt;obtain⟨i,kk⟩:=r;obtain rfl:kk=0:=hk;obtain rfl:i=(p:Int):=hr rfl;refine zb.mono (MX hi G hx L p hp ⟨hbm,ya sb H.nm,sb.trans H.sb⟩ (TV.Sy H.sb) hTl hM (fun e=>?_) (fun e=>?_) (OY _) hcl) ?_
 ·obtain⟨TY,hbb⟩:=TV.hb;rw[e,H.nm]at hbb;cases hbb
 ·exact TV.ow.held _ e H.nm
 rintro _ h1 ⟨rfl,p',hp',rfl,hpe⟩;exact⟨rfl,H.Pm hp' (fun h=>(hpe h).symm) P N⟩
theorem Zv(h:r.k≠0):sy bs cs r=(r,0):=by unfold sy;rw[if_neg h]
theorem U6(hi:qaC S h0)(G:ErrL h0)(hro:k.room<=200000)(hdl:k.dl<=40000)(hsz:1<=k.sz/\k.sz<=32768)(hx:zo h0 .u8 k.a k.bs)(L:k.bs.length<=1048576)(sb:qaB h0 hb)(H:IM hb h k r al last l d)(hk:r.k=0)(ok:okR k.bs r)(f:Nat)(hf:8*(k.bs.length:Int)+1<=r.i+f)(f':Nat)(hf':8*(k.bs.length:Int)+1<=r.i+f')(TA:Po h0 hb l d cl cd)(hB:mz k r+2<=B)
  (hF:Fin=cont k F f last (syF k.bs cl cd k.dl k.room k.sz f' r al)) :
  zb oPP S yG #[.pointer (some ⟨k.bm,0,none⟩)] h (Eh h0 k F Fin B):=by
 refine CJ (vs:=[.pointer (some ⟨k.bm,0,none⟩)]) ⟨rfl,trivial⟩ (hi.sub (sb.trans H.sb)) ?_;simp (maxSteps:=4000000) only[wQ,Tr.wp,z4,Ex.ev,coerce,toInt_int,za,zc,ze,zd,zf,zx,xb,z9,arith,Cst.val,SV.den,zn,zL,zz,zk,zi,zy,zq,vF,vG,vA,vB,decide_eq_true_eq,decide_eq_false_iff_not,vD,vE,vI,vH,vJ,List.length_cons,List.length_nil,Nat.zero_add,Nat.add_zero,and_true,if_true,if_false,vK,zu];have hib:=hi.sub sb;have Gb:=G.sub sb;have hxb:=hx.sub sb;have hsb:¬S k.bm:=fun hs=>hib k.bm hs H.nm
 have hpos:=ok hk;obtain⟨f2,rfl⟩:∃f2,f'=f2+1:=⟨f'-1,by omega⟩;obtain⟨b1,b2,T1,P1,T2,P2,a1,a2,c1,c2,rfl,rfl,V1,V2,t1,t2,m1,m2,l1,l2⟩:=id TA;have est:syF k.bs cl cd k.dl k.room k.sz (f2+1) r al=(if(sy k.bs cl r).1.k≠0\/(sy k.bs cl r).2=256 then((sy k.bs cl r).1,al)else syF k.bs cl cd k.dl k.room k.sz f2 (sy1 k.bs cd k.dl k.room k.sz (sy k.bs cl r).1 al (sy k.bs cl r).2).1 (sy1 k.bs cd k.dl k.room k.sz (sy k.bs cl r).1 al (sy k.bs cl r).2).2):=by rw[syF,if_pos hk]
 obtain⟨_,_,_,_,_,hbm0,_,_⟩:=H.mt;obtain⟨_,_,_,_,_,_,g6,g7⟩:=yO hbm0;refine⟨by simp,_,g6,?_⟩;refine zb.mono (U5 hi G.es hx L sb H hk V1 t1 m1 l1) ?_;rintro _ h1 ⟨rfl,H1⟩;have ok1:okR k.bs (sy k.bs cl r).1:=qk ok;have lt1:(sy k.bs cl r).1.k=0->r.k=0/\r.i+1<=(sy k.bs cl r).1.i:=NY;have nn1:=KH (bs:=k.bs) (cs:=cl) (r:=r);generalize sy k.bs cl r=q at est H1 ok1 lt1 nn1 ⊢;obtain⟨r1,x⟩:=q;simp only at est H1 ok1 lt1 nn1 ⊢;refine⟨_,yh r1.k,zg,by rw[zg],fun hz=>?_,fun hz=>?_⟩
 ·rw[zg,zP]at hz;have hk1:r1.k≠0:=by simpa using hz
  refine⟨.nilFunc,r1,al,hb,last,_,_,by rw[zg],sb,H1,ok1,fun _=>⟨?_,.inl rfl⟩,fun h=>absurd h hk1⟩;rw[hF,est,if_pos (.inl hk1),jb hk1]
 rw[zg,zP]at hz;have hk1:r1.k=0:=by simpa using hz
 have hlt1:=(lt1 hk1).2;refine⟨fun hlt b hbn=>?_,fun hge=>⟨fun h256=>?_,fun h256=>⟨fun hgt=>?_,fun hle=>?_⟩⟩⟩
 ·have wb:IntKind.u8.wrap x=x:=by rw[IntKind.wrap_u8];omega
  rw[wb];have e1:sy1 k.bs cd k.dl k.room k.sz r1 al x=tell k.dl k.room r1 al [x]:=if_pos hlt;rw[if_neg (by omega),e1]at est;have H5:=H1.sub (Sub.zC (o:=.cells (ints .u8 [x]) 5) hbn);refine zb.mono (U0 hib Gb hro hdl H5 hk1 (ad:=some ⟨b,0,none⟩) (cd:=1) (ys:=[x]) zo.new (by simp) (by simp) (H1.fresh hbn)) ?_;rintro _ h6 ⟨rfl,H6⟩;refine⟨yh (tell k.dl k.room r1 al [x]).1.k,zg,by rw[zg],?_⟩;rw[zg];refine⟨fnV k yG,_,_,hb,last,_,_,rfl,sb,H6,wN ok1,fun h6k=>⟨?_,.inr ⟨_,rfl⟩⟩,fun h6k=>?_⟩
  ·rw[hF,est,BA h6k,jb h6k]
  ·have hle6:=(AA (dl:=k.dl) (room:=k.room) (al:=al) (d:=[x]) h6k).2;exact⟨_,(by have hm:=Ih (k:=k) (r:=r) (rr:=(tell k.dl k.room r1 al [x]).1) (m:=1) (by omega) (wN ok1 h6k).2;omega:mz k (tell k.dl k.room r1 al [x]).1+2<B),f,by omega,.inr (.inr (.inr (.inr (.inl ⟨rfl,rfl,_,_,f2,TA,by push_cast at hf';omega,by rw[hF,est]⟩))))⟩
 ·have h256:x=256:=beq_iff_eq.1 h256;have ez:yh r1.k=.nilIface:=by rw[hk1];rfl
  refine⟨fnV k x8,r1,al,hb,last,_,_,by rw[ez];rfl,sb,H1,ok1,fun h=>absurd hk1 h,fun _=>⟨_,(by have hm:=Ih (k:=k) (r:=r) (rr:=r1) (m:=1) (by omega) (ok1 hk1).2;omega:mz k r1+1<B),f,by omega,.inr (.inr (.inr (.inr (.inr (.inl ⟨rfl,rfl,?_⟩)))))⟩⟩;rw[hF,est,if_pos (.inr h256)]
 ·have h256:x≠256:=by simpa using h256
  have e1:sy1 k.bs cd k.dl k.room k.sz r1 al x=(⟨r1.i,3⟩,al):=by unfold sy1;rw[if_neg (by omega),if_pos (by omega)];unfold bd;rw[if_pos ⟨hk1,rfl⟩]
  rw[if_neg (by omega),e1]at est;refine⟨3,(Gb.sub H1.sb).es.e3,.nilFunc,⟨r1.i,3⟩,al,hb,last,_,_,rfl,sb,H1.Ii (show(3:Int)≠0 by decide),fun h=>(by cases h),fun _=>⟨?_,.inl rfl⟩,fun h=>(by cases h)⟩;rw[hF,est,BA (show(3:Int)≠0 by decide),jb (show(3:Int)≠0 by decide)]
 ·have h256:x≠256:=by simpa using h256
  obtain⟨s,rfl⟩:=Int.eq_ofNat_of_zero_le (show 0<=x by omega);have e1:sy1 k.bs cd k.dl k.room k.sz r1 al (s:Int)=cpF k.bs cd k.dl k.room k.sz r1 al s:=by unfold sy1;rw[if_neg (by omega),if_neg (by omega)];rfl
  rw[if_neg (by omega),e1]at est;have bad:∀(h':qaA) (rr:Rd),cpF k.bs cd k.dl k.room k.sz r1 al s=(rr,al)->rr.k≠0->okR k.bs rr->IM hb h' k rr al last (.pointer (some ⟨b1,0,none⟩)) (.pointer (some ⟨b2,0,none⟩))->Eh h0 k F Fin B (.tuple #[.nilFunc,yh rr.k]) h':=fun h' rr e hkr okr HR=>
   ⟨.nilFunc,rr,al,hb,last,_,_,rfl,sb,HR,okr,fun _=>⟨by rw[hF,est,e,BA hkr,jb hkr],.inl rfl⟩,fun h=>absurd h hkr⟩
  have hlen:=Mc ⟨s,by omega⟩ (by simp only;omega);simp only at hlen;refine zb.mono (Sw (hib.sub H1.sb) s (by omega) (by omega)) ?_;rintro _ h2 ⟨rfl,rfl⟩;refine⟨_,_,rfl,?_⟩;refine zb.mono (DC hib Gb.es hxb L H1 hk1 (yL s).2 (by omega)) ?_;rintro _ h2 ⟨rfl,H2⟩;have okc1:okR k.bs (cp1 k.bs r1 s).1:=y7 ok1;have e1':tk k.bs (yL s).2 r1=cp1 k.bs r1 s:=rfl;rw[e1']at H2 ⊢;refine⟨_,yh (cp1 k.bs r1 s).1.k,zg,by rw[zg],fun hz=>?_,fun hz=>?_⟩
  ·rw[zg,zP]at hz;have hk2:(cp1 k.bs r1 s).1.k≠0:=by simpa using hz
   rw[zg];refine bad h2 _ ?_ hk2 okc1 H2;have e2:cp2 k.bs cd r1 s=((cp1 k.bs r1 s).1,0):=Zv hk2;have e3:cp3 k.bs cd r1 s=(cp1 k.bs r1 s).1:=by unfold cp3;rw[e2];exact Cg hk2
   unfold cpF;rw[e3,if_pos hk2]
  rw[zg,zP]at hz;have hk2:(cp1 k.bs r1 s).1.k=0:=by simpa using hz
  obtain⟨_,_,_,_,_,hbm2,_,_⟩:=H2.mt;obtain⟨_,_,_,_,_,_,_,g7'⟩:=yO hbm2;refine⟨by simp,_,g7',?_⟩;refine zb.mono (U5 hi G.es hx L sb H2 hk2 V2 t2 m2 l2) ?_;rintro _ h3 ⟨rfl,H3⟩;have okc2:okR k.bs (cp2 k.bs cd r1 s).1:=qk okc1;have e2':sy k.bs cd (cp1 k.bs r1 s).1=cp2 k.bs cd r1 s:=rfl;have nn2:=KH (bs:=k.bs) (cs:=cd) (r:=(cp1 k.bs r1 s).1);rw[e2']at H3 nn2 ⊢;refine⟨_,yh (cp2 k.bs cd r1 s).1.k,zg,by rw[zg],fun hz=>?_,fun hz=>?_⟩
  ·rw[zg,zP]at hz;have hk3:(cp2 k.bs cd r1 s).1.k≠0:=by simpa using hz
   rw[zg];refine bad h3 _ ?_ hk3 okc2 H3;have e3:cp3 k.bs cd r1 s=(cp2 k.bs cd r1 s).1:=Cg hk3;unfold cpF;rw[e3,if_pos hk3]
  rw[zg,zP]at hz;have hk3:(cp2 k.bs cd r1 s).1.k=0:=by simpa using hz
  refine⟨fun hgt=>?_,fun hle29=>?_⟩
  ·have e3:cp3 k.bs cd r1 s=⟨(cp2 k.bs cd r1 s).1.i,3⟩:=by unfold cp3 bd;rw[if_pos ⟨hk3,decide_eq_true (by omega)⟩]
   refine⟨3,(Gb.sub H3.sb).es.e3,bad h3 ⟨(cp2 k.bs cd r1 s).1.i,3⟩ ?_ (show(3:Int)≠0 by decide) (fun h=>(by cases h)) (H3.Ii (show(3:Int)≠0 by decide))⟩;unfold cpF;rw[e3,if_pos (show(3:Int)≠0 by decide)]
  have e3:cp3 k.bs cd r1 s=(cp2 k.bs cd r1 s).1:=by unfold cp3 bd;rw[if_neg (fun h=>by have:=of_decide_eq_true h.2;omega)]
  obtain⟨dd,hdd⟩:=Int.eq_ofNat_of_zero_le nn2.1;have hd29:dd<=29:=by omega
  have hdis:=Md ⟨dd,by omega⟩;simp only at hdis;rw[hdd];refine zb.mono (Wh (hib.sub H3.sb) dd hd29) ?_;rintro _ h4 ⟨rfl,rfl⟩;refine⟨_,_,rfl,?_⟩;rw[<-e3]at H3 hk3;have ok3:okR k.bs (cp3 k.bs cd r1 s):=by rw[e3];exact okc2
  refine zb.mono (DC hib Gb.es hxb L H3 hk3 (yW dd).2 (by omega)) ?_;rintro _ h4 ⟨rfl,H4⟩;have e4:tk k.bs (yW dd).2 (cp3 k.bs cd r1 s)=cp4 k.bs cd r1 s:=by unfold cp4;rw[hdd,Int.toNat_natCast]
  have n4:=yp (bs:=k.bs) (n:=(yW dd).2) (r:=cp3 k.bs cd r1 s);have okc4:okR k.bs (cp4 k.bs cd r1 s).1:=y7 ok3;rw[e4]at H4 n4 ⊢;refine⟨_,yh (cp4 k.bs cd r1 s).1.k,zg,by rw[zg],fun hz=>?_,fun hz=>?_⟩
  ·rw[zg,zP]at hz;have hk4:(cp4 k.bs cd r1 s).1.k≠0:=by simpa using hz
   rw[zg];refine bad h4 _ ?_ hk4 okc4 H4;have e5:cp5 k.bs cd k.sz r1 al s=(cp4 k.bs cd r1 s).1:=Cg hk4;unfold cpF;rw[if_neg (fun h=>h hk3),e5,if_pos hk4]
  rw[zg,zP]at hz;have hk4:(cp4 k.bs cd r1 s).1.k=0:=by simpa using hz
  have hp13:(2:Int)^(yW dd).2<=8192:=by
   rw[yC];exact_mod_cast Nat.le_trans (Nat.pow_le_pow_right (by decide) hdis.2.2) (by decide)
  have nn1':=yp (bs:=k.bs) (n:=(yL s).2) (r:=r1);have hp5:(2:Int)^(yL s).2<=32:=by
   rw[yC];exact_mod_cast Nat.le_trans (Nat.pow_le_pow_right (by decide) hlen.2.2) (by decide)
  rw[e1']at nn1';obtain⟨x4,hx4⟩:=Int.eq_ofNat_of_zero_le n4.1;obtain⟨x1,hx1⟩:=Int.eq_ofNat_of_zero_le nn1'.1;have hdist:yE k.bs cd r1 s=(yW dd).1+x4:=by unfold yE;rw[hdd,Int.toNat_natCast,hx4,Int.toNat_natCast]
  have hcl:jr k.bs r1 s=(yL s).1+x1:=by unfold jr;rw[hx1,Int.toNat_natCast]
  rw[hx4,hx1];have wd:IntKind.i64.wrap (((yW dd).1:Int)+(x4:Int))=((yE k.bs cd r1 s:Nat):Int):=by rw[hdist,i64_in _ (by omega)];omega
  have wl:IntKind.i64.wrap (((yL s).1:Int)+(x1:Int))=((jr k.bs r1 s:Nat):Int):=by rw[hcl,i64_in _ (by omega)];omega
  rw[wd,wl];have hdp:1<=yE k.bs cd r1 s/\yE k.bs cd r1 s<=40000:=by omega
  have hlp:jr k.bs r1 s<=400/\1<=jr k.bs r1 s:=by omega
  have h258:jr k.bs r1 s<=258:=by
   have e:=Zu ⟨s,by omega⟩ (by simp only;omega);simp only at e;have hx:=nn1'.2;rw[hx1,yC]at hx;have:x1<2^(yL s).2:=by exact_mod_cast hx
   omega
  obtain⟨p,ao,co,hp,hr,hbm4,P4,N4⟩:=H4.mt;obtain⟨rd,at_,nn,hbw,R,sR,hnw⟩:=H4.rg;obtain⟨_,_,u2,u3,u4,_⟩:=yO hbm4;have hknn:nn=min al.length k.sz:=by rw[<-R.kn,je]
  have hal:=H4.le;refine⟨by simp,_,u2,by simp,(nn:Int),by simp only[zf,zu,Nat.zero_add,Nat.add_zero];exact OM hbw R.dl,fun hgt=>?_,fun hle=>⟨by simp,_,u4,fun hgt2=>?_,fun hle2=>⟨by simp,_,u4,by simp,?_⟩⟩⟩
  ·have e5:cp5 k.bs cd k.sz r1 al s=⟨(cp4 k.bs cd r1 s).1.i,3⟩:=by
    unfold cp5 bd;rw[if_pos ⟨hk4,by simp only[Bool.or_eq_true,decide_eq_true_eq];omega⟩]
   refine⟨3,(Gb.sub H4.sb).es.e3,bad h4 ⟨(cp4 k.bs cd r1 s).1.i,3⟩ ?_ (show(3:Int)≠0 by decide) (fun h=>(by cases h)) (H4.Ii (show(3:Int)≠0 by decide))⟩;unfold cpF;rw[if_neg (fun h=>h hk3),e5,if_pos (show(3:Int)≠0 by decide)]
  all_goals
   have e5:cp5 k.bs cd k.sz r1 al s=(cp4 k.bs cd r1 s).1:=by
    unfold cp5 bd;rw[if_neg (fun h=>by have:=h.2;simp only[Bool.or_eq_true,decide_eq_true_eq]at this;omega)]
   have ecp:cpF k.bs cd k.dl k.room k.sz r1 al s=tell k.dl k.room (cp4 k.bs cd r1 s).1 al (cpD al (yE k.bs cd r1 s) (jr k.bs r1 s)):=by
    unfold cpF;rw[if_neg (fun h=>h hk3),e5,if_neg (fun h=>h hk4)]
  ·refine⟨6,(Gb.sub H4.sb).e6,bad h4 ⟨(cp4 k.bs cd r1 s).1.i,6⟩ ?_ (show(6:Int)≠0 by decide) (fun h=>(by cases h)) (H4.Ii (show(6:Int)≠0 by decide))⟩;rw[ecp];unfold tell;rw[if_pos hk4,if_pos (by rw[CO];simp only[xk]at hgt2;omega)]
  ·have ecp2:cpF k.bs cd k.dl k.room k.sz r1 al s=((cp4 k.bs cd r1 s).1,al++cpD al (yE k.bs cd r1 s) (jr k.bs r1 s)):=by
    rw[ecp];unfold tell;rw[if_pos hk4,if_neg (by rw[CO];simp only[xk]at hle2;omega)]
   have hrl:al.length-k.dl+jr k.bs r1 s<=k.room:=by simp only[xk]at hle2;omega
   have lecp:le2 r1 (cp4 k.bs cd r1 s).1:=fun h=>by
    have a3:=xq (bs:=k.bs) (n:=(yW (cp2 k.bs cd r1 s).2.toNat).2) (r:=cp3 k.bs cd r1 s) h;have a2:=xj (w:=decide (29<(cp2 k.bs cd r1 s).2)) (r:=(cp2 k.bs cd r1 s).1) a3.1;have a1:=FK (bs:=k.bs) (cs:=cd) (r:=(cp1 k.bs r1 s).1) a2.1;have a0:=xq (bs:=k.bs) (n:=(yL s).2) (r:=r1) a1.1;exact⟨a0.1,Int.le_trans a0.2 (Int.le_trans a1.2 (Int.le_trans a2.2 a3.2))⟩
   clear ecp e5;generalize hcp4:(cp4 k.bs cd r1 s).1=r4 at H4 hr hk4 okc4 ecp2 lecp;generalize hD:yE k.bs cd r1 s=D at hle hdp ecp2 hdist ⊢;generalize hM:jr k.bs r1 s=M at hle2 hlp h258 ecp2 hrl hcl ⊢;have hM2:=CO (al:=al) (dist:=D) (n:=M);have hDl:D<=(zB k.sz al).length:=by rw[je];omega
   simp only[yk,zu,Nat.add_zero];have hrm:IntKind.i64.wrap ((xk k al (.slice ao (k.otl al).length co) last (.pointer (some ⟨b1,0,none⟩)) (.pointer (some ⟨b2,0,none⟩))).rm-(M:Int))=(k.room:Int)-(((al++cpD al D M).length-k.dl:Nat):Int):=by
    simp only[xk,List.length_append,hM2];rw[i64_in _ (by omega)];omega
   refine⟨kS hbm4 hsb u4,by simp,?_⟩;rw[hrm,Ri hbm4];obtain⟨h5,hh5⟩:∃h5,h5=upd h4 k.bm (zX k.a k.c k.bs p ⟨.pointer (some ⟨k.bw,0,none⟩),.slice ao (k.otl al).length co,(k.room:Int)-(((al++cpD al D M).length-k.dl:Nat):Int),last,.pointer (some ⟨b1,0,none⟩),.pointer (some ⟨b2,0,none⟩)⟩ k.T):=⟨_,rfl⟩;have eh5:upd h4 k.bm (zX k.a k.c k.bs p ⟨(xk k al (.slice ao (k.otl al).length co) last (.pointer (some ⟨b1,0,none⟩)) (.pointer (some ⟨b2,0,none⟩))).w,(xk k al (.slice ao (k.otl al).length co) last (.pointer (some ⟨b1,0,none⟩)) (.pointer (some ⟨b2,0,none⟩))).out,(k.room:Int)-(((al++cpD al D M).length-k.dl:Nat):Int),(xk k al (.slice ao (k.otl al).length co) last (.pointer (some ⟨b1,0,none⟩)) (.pointer (some ⟨b2,0,none⟩))).last,(xk k al (.slice ao (k.otl al).length co) last (.pointer (some ⟨b1,0,none⟩)) (.pointer (some ⟨b2,0,none⟩))).l,(xk k al (.slice ao (k.otl al).length co) last (.pointer (some ⟨b1,0,none⟩)) (.pointer (some ⟨b2,0,none⟩))).d⟩ k.T)=h5:=by rw[hh5];rfl
   rw[eh5];have hb5:h5 k.bm=some (zX k.a k.c k.bs p ⟨.pointer (some ⟨k.bw,0,none⟩),.slice ao (k.otl al).length co,(k.room:Int)-(((al++cpD al D M).length-k.dl:Nat):Int),last,.pointer (some ⟨b1,0,none⟩),.pointer (some ⟨b2,0,none⟩)⟩ k.T):=by rw[hh5,upd_same]
   have h54:∀z,z≠k.bm->h5 z=h4 z:=fun z hz=>by rw[hh5];exact upd_ne hz
   obtain⟨_,_,w2,w3,_⟩:=yO hb5;have s5:qaB hb h5:=by rw[hh5];exact xJ H4.sb H4.nm
   have hbw5:h5 k.bw=some (yj k.sz rd at_ nn k.TW):=(h54 k.bw (Ne.symm H4.ne)).trans hbw;have P5:Part .u8 h5 (.slice ao (k.otl al).length co) (k.otl al):=P4.keep fun z hz=>h54 z (IM.xH N4 hz).1
   obtain⟨g,hg⟩:∃g,g=wo h5 [k.bw]:=⟨_,rfl⟩;have sbg:qaB hb g:=hg▸Sx s5 (fun b hb'=>by rw[List.mem_singleton.1 hb'];exact hnw);have sg5:qaB g h5:=hg▸Ob;have gne:∀z,z≠k.bw->g z=h5 z:=fun z hz=>by rw[hg];exact Pp (fun hm=>hz (List.mem_singleton.1 hm))
   have Rg:RingAt g h5 k.bw k.TW k.sz (zB k.sz (zB k.sz al)):=by
    rw[F7];exact⟨rd,at_,nn,hbw5,R,sg5,hg▸KR (List.mem_singleton.2 rfl)⟩
   refine⟨_,_,_,w3,by simp,_,w2,?_⟩;refine zb.mono (We (hib.sub sbg) Rg (D:Int) (M:Int) (by omega) (by omega) (by rw[je]at hDl;omega) (by omega) (by rw[je];omega)) ?_;rintro v6 h6 ⟨O6,N6,R6⟩;rw[Int.toNat_natCast,Int.toNat_natCast,Mj hdp.1 hDl,Ps hdp.1 hDl]at R6;rw[Int.toNat_natCast,Int.toNat_natCast,Mj hdp.1 hDl,Ps hdp.1 hDl,List.drop_left]at O6;rw[BW]at R6;obtain⟨rd6,at6,nn6,hbw6,RS6,sg6,_⟩:=R6;have hkeep:∀z,z≠k.bw->h5 z≠none->h6 z=h5 z:=fun z hz hn=>by
    cases e:h5 z with
    | none=>exact absurd e hn
    | some o=>exact sg6 z o ((gne z hz).trans e)
   have hb6:=(hkeep k.bm H4.ne (by rw[hb5];simp)).trans hb5;obtain⟨_,_,x2,x3,_⟩:=yO hb6;have P6:Part .u8 h6 (.slice ao (k.otl al).length co) (k.otl al):=P5.keep fun z hz=>hkeep z (IM.xH N4 hz).2.1 (tB.Oheld P5 (show tB.B _ z from hz))
   obtain⟨a6,c6,rfl,_,g6'⟩:=Part.ints O6;refine⟨_,_,_,rfl,fun pp hpp=>?_,?_⟩
   ·obtain rfl:=List.mem_singleton.1 hpp;simp only[Ex.ev,coerce,zc,ze,zd,zf,zx,vA,vB,Nat.zero_add,zu,zf]
    first | exact x3 | (simp[zu];exact x3)
   have hdl2:(k.otl al).length<=300000:=by rw[KC.Rf];omega
   refine yA hib (sbg.trans sg6) P6 (fun z hz=>(IM.xH N4 hz).2.2) g6' (by omega) fun v7 h7 o7 n7 s7 k7 r7=>?_
   obtain⟨a7,c7,rfl,_,_⟩:=o7.ints;have hb7:=(k7 k.bm (by rw[hb6];simp) (fun e=>(IM.xH N4 e).1 rfl)).trans hb6;have hbw7:=(k7 k.bw (by rw[hbw6];simp) (fun e=>(IM.xH N4 e).2.1 rfl)).trans hbw6;obtain⟨_,_,_,y3,_⟩:=yO hb7;simp only[zd,zc,ze];refine⟨by simp,kS hb7 hsb y3,?_⟩;rw[Pn hb7];have ed:k.otl (al++cpD al D M)=k.otl al++cpD al D M:=KC.Rh hal.1;have nv:∀z,zh (.slice a7 (k.otl al++cpD al D M).length c7)=some z->z≠k.bm/\z≠k.bw:=fun z hz=>by
    rcases r7 with r7 | r7
    ·have:=IM.xH N4 (r7▸hz);exact⟨this.1,this.2.1⟩
    ·have:=r7 z hz;exact⟨fun e=>(by rw[e,hb6]at this;cases this),fun e=>(by rw[e,hbw6]at this;cases this)⟩
   obtain⟨h8,hh8⟩:∃h8,h8=upd h7 k.bm (zX k.a k.c k.bs p ⟨.pointer (some ⟨k.bw,0,none⟩),.slice a7 (k.otl al++cpD al D M).length c7,(k.room:Int)-(((al++cpD al D M).length-k.dl:Nat):Int),last,.pointer (some ⟨b1,0,none⟩),.pointer (some ⟨b2,0,none⟩)⟩ k.T):=⟨_,rfl⟩;rw[<-hh8];have s8:qaB hb h8:=by rw[hh8];exact xJ s7 H4.nm
   have h87:∀z,z≠k.bm->h8 z=h7 z:=fun z hz=>by rw[hh8];exact upd_ne hz
   have H8:IM hb h8 k r4 (al++cpD al D M) last (.pointer (some ⟨b1,0,none⟩)) (.pointer (some ⟨b2,0,none⟩)):=by
    refine⟨⟨p,a7,c7,hp,hr,?_,?_,?_⟩,⟨rd6,at6,nn6,(h87 k.bw (Ne.symm H4.ne)).trans hbw7,RS6,s8,hnw⟩,H4.nm,H4.ne,s8,?_⟩
    ·rw[hh8,upd_same,ed];rfl
    ·rw[ed];exact o7.keep fun z hz=>h87 z (nv z hz).1
    ·rw[ed];exact fun z hz=>Au.2 ⟨by simp[(nv z hz).1,(nv z hz).2],n7 z hz⟩
    ·rw[List.length_append,hM2];omega
   have ez:yh r4.k=.nilIface:=by rw[hk4];rfl
   have hle4:=(lecp hk4).2;refine⟨fnV k yG,r4,_,hb,last,_,_,by rw[ez];rfl,sb,H8,okc4,fun h=>absurd hk4 h,fun _=>⟨_,(by have hm:=Ih (k:=k) (r:=r) (rr:=r4) (m:=1) (by omega) (okc4 hk4).2;omega:mz k r4+2<B),f,by omega,.inr (.inr (.inr (.inr (.inl ⟨rfl,rfl,_,_,f2,TA,by push_cast at hf';omega,by rw[hF,est,ecp2]⟩))))⟩⟩
end
end
section
section
variable {k:KC}{Fin:Rd × List Int}
def Bh(h0:qaA)(k:KC)(F:Nat)(Fin:Rd×List Int)(v:Value)(h:qaA)(n:Nat):Prop:=
 ∃(r:Rd) (al:List Int) (hb:qaA) (last:Bool) (l d:Value),qaB h0 hb/\IM hb h k r al last l d/\r.k=0/\okR k.bs r/\Zt h0 hb k F Fin v r al last l d n
def Pt(h0:qaA)(k:KC)(Fin:Rd×List Int)(v:Value)(h':qaA):Prop:=
 ∃(hb:qaA) (last:Bool) (l d:Value),v=yh Fin.1.k/\qaB h0 hb/\IM hb h' k Fin.1 Fin.2 last l d/\okR k.bs Fin.1
theorem least{P:Nat->Prop}:∀n,P n->∃m,P m/\∀j,P j->m<=j
 | n,h=>by
  by_cases hs:∃j,j<n/\P j
  ·obtain⟨j,hj,hp⟩:=hs;exact least j hp
  ·exact⟨n,h,fun j hp=>Nat.le_of_not_lt fun hl=>hs ⟨j,hl,hp⟩⟩
open Classical in
noncomputable def runM (h0:qaA) (k:KC) (F:Nat) (Fin:Rd×List Int) (v:Value) (h:qaA):Nat:=if H:∃n,Bh h0 k F Fin v h n/\∀j,Bh h0 k F Fin v h j->n<=j then Classical.choose H else 0
theorem Nf(H:Bh h0 k F Fin v h n):Bh h0 k F Fin v h (runM h0 k F Fin v h)/\runM h0 k F Fin v h<=n:=by
 have e:=least n H;unfold runM;rw[dif_pos e];exact⟨(Classical.choose_spec e).1,(Classical.choose_spec e).2 n H⟩
theorem Xc(hi:qaC S h0)(G:ErrL h0)(hro:k.room<=200000)(hdl:k.dl<=40000)(hsz:1<=k.sz/\k.sz<=32768)(hx:zo h0 .u8 k.a k.bs)(L:k.bs.length<=1048576)(hFl:8*k.bs.length+1<=F){n0:Nat}(H0:Bh h0 k F Fin (fnV k yq) h n0) :
  zb oPP S jR #[.pointer (some ⟨k.bm,0,none⟩),.func (.func yq) #[.pointer (some ⟨k.bm,0,none⟩)] #[]] h (Pt h0 k Fin):=by
 refine EW (vs:=[.pointer (some ⟨k.bm,0,none⟩),.func (.func yq) #[.pointer (some ⟨k.bm,0,none⟩)] #[]]) ⟨rfl,rfl,trivial⟩ (hi.sub (by obtain⟨_,_,hb,_,_,_,s,H,_⟩:=H0;exact s.trans H.sb)) ?_;simp only[Bn,Tr.wp,z4,Ex.ev,coerce,za,Cst.val,SV.den,zn,zL,zz,zk,zi,zy,zV,vF,vG,vA,vB,vC,vD,vE,vI,vH,vJ,List.length_cons,List.length_nil,Nat.zero_add,if_true,if_false,vK];refine⟨fun us h'=>∃v n,us=[v]/\Bh h0 k F Fin v h' n,fun us h'=>runM h0 k F Fin (us.getD 0 undef) h',⟨_,n0,rfl,H0⟩,?_⟩;rintro v hfv h' ⟨v',n,hx1,HR⟩;obtain rfl:v=v':=by simpa using hx1
 obtain⟨⟨r,al,hb,last,l,d,sb,H,hk,ok,HO⟩,_⟩:=Nf HR;obtain⟨m,hm⟩:∃m,m=runM h0 k F Fin v h':=⟨_,rfl⟩;rw[<-hm]at HO;have fin:∀v1 h1,Eh h0 k F Fin m v1 h1->∃v_2,Aj v_2=v_2/\∃v_3,kv v_3=v_3/\v1=.tuple #[Aj v_2,kv v_3]/\((!x7 (kv v_3))=true->Pt h0 k Fin (kv v_3) h1) /\
   ((!x7 (kv v_3))=false->(∃v n,[Aj v_2]=[v]/\Bh h0 k F Fin v h1 n)/\runM h0 k F Fin (([Aj v_2]:List Value).getD 0 undef) h1<runM h0 k F Fin (([v]:List Value).getD 0 undef) h'):=by
  rintro v1 h1 ⟨nx,rr,al',hb',last',l',d',rfl,sb',H',ok',hbad,hgood⟩;have hnx:Aj nx=nx:=by
   by_cases hkr:rr.k=0
   ·obtain⟨n',_,f,_,hO⟩:=hgood hkr;rcases hO with⟨e,_⟩ | ⟨e,_⟩ | ⟨e,_⟩ | ⟨e,_⟩ | ⟨e,_⟩ | ⟨e,_⟩ | ⟨e,_⟩ <;> (rw[e];rfl)
   ·rcases(hbad hkr).2 with e | ⟨f,e⟩ <;> (rw[e];rfl)
  refine⟨nx,hnx,yh rr.k,zg,by rw[hnx,zg],fun hz=>?_,fun hz=>?_⟩
  ·rw[zg,zP]at hz;have hkr:rr.k≠0:=by simpa using hz
   obtain⟨e,_⟩:=hbad hkr;rw[e,zg];exact⟨hb',last',l',d',rfl,sb',H',ok'⟩
  ·rw[zg,zP]at hz;have hkr:rr.k=0:=by simpa using hz
   obtain⟨n',hn',hO⟩:=hgood hkr;have RA:Bh h0 k F Fin nx h1 n':=⟨rr,al',hb',last',l',d',sb',H',hkr,ok',hO⟩;have:=(Nf RA).2;rw[hnx];refine⟨⟨nx,n',rfl,RA⟩,?_⟩;show runM h0 k F Fin nx h1<runM h0 k F Fin v h';omega
 obtain⟨f,hf,hO⟩:=HO;rcases hO with⟨rfl,em,e⟩ | ⟨rfl,em,e⟩ | ⟨rfl,em,e⟩ | ⟨rfl,em,e⟩ | ⟨rfl,em,cl,cd,f',TA,hf',e⟩ | ⟨rfl,em,e⟩ | ⟨rfl,em,e⟩
 ·refine⟨fun _=>⟨_,_,_,rfl,zb.mono (Ya hi G.es hx L sb H hk ok f hf (B:=m) (by omega) e) fin⟩,fun h=>(by cases h)⟩
 ·refine⟨fun _=>⟨_,_,_,rfl,zb.mono (Wk hi G hro hdl hx L sb H hk ok f hf (B:=m) (by omega) e) fin⟩,fun h=>(by cases h)⟩
 ·refine⟨fun _=>⟨_,_,_,rfl,zb.mono (Yb hi L sb H hk ok hFl f hf (B:=m) (by omega) e) fin⟩,fun h=>(by cases h)⟩
 ·refine⟨fun _=>⟨_,_,_,rfl,zb.mono (U4 hi G.es hx L sb H hk ok hFl f hf (B:=m) (by omega) e) fin⟩,fun h=>(by cases h)⟩
 ·refine⟨fun _=>⟨_,_,_,rfl,zb.mono (U6 hi G hro hdl hsz hx L sb H hk ok f hf f' hf' TA (B:=m) (by omega) e) fin⟩,fun h=>(by cases h)⟩
 ·refine⟨fun _=>⟨_,_,_,rfl,zb.mono (Wi hi sb H hk ok f hf (B:=m) (by omega) e) fin⟩,fun h=>(by cases h)⟩
 ·refine⟨fun h=>(by cases h),fun _=>⟨hb,last,l,d,?_,sb,?_,?_⟩⟩
  ·rw[e,hk];rfl
  ·rw[e];exact H
  ·rw[e];exact ok
end
end
section
theorem BC(hi:qaC S h)(G:ErrL h)(E:Cv h)(O:tB.O h v bs)(L:Bf bs)(n:Int)(wn:(Lit.int .i64 n).wf=true)(O2:tB.O h u ds)(L2:Bf ds) :
  zb oPP S jJ #[v,.int .i64 n,u] h (fun v h'=>xx.O h' v (zK bs n ds)/\xx.New h v/\qaB h h'):=by
 obtain⟨a,c,rfl,hc,hx⟩:=Part.ints O;obtain⟨a2,c2,rfl,hc2,hx2⟩:=Part.ints O2;have hL:bs.length<=1048576:=L;have hL2:ds.length<=1048576:=L2;refine Dp (vs:=[.slice a bs.length c,.int .i64 n,.slice a2 ds.length c2]) ⟨rfl,rfl,rfl,trivial⟩ hi ?_;simp only[Bz,Tr.wp,z4,Ex.ev,coerce,toInt_int,za,zc,ze,zd,zf,zx,jA,z9,Cst.val,SV.den,zn,zL,zz,zk,zi,yF,zy,zq,vF,vG,List.replicate_one,vA,vB,decide_eq_true_eq,decide_eq_false_iff_not,vD,vE,vI,vH,vJ,Nat.zero_add,Nat.add_zero,and_true,if_false,vK,zu];refine⟨fun hgt=>?_,fun hle=>⟨fun hbad=>?_,fun hok=>?_⟩⟩
 ·have e:zK bs n ds=(7,[],0,()):=if_pos (by omega);rw[e];exact FN (fun _ _ e=>e)
 ·have e:zK bs n ds=(3,[],0,()):=by
   unfold zK;rw[if_neg (by omega),if_pos (by simp at hbad;omega)]
  rw[e];exact FN (fun _ _ e=>e)
 have hok:1<=n/\n<=32768:=by simp at hok;omega
 have e:zK bs n ds=if(yM bs n.toNat ds).1.k≠0 then((yM bs n.toNat ds).1.k,(yM bs n.toNat ds).2.drop (zB n.toNat ds).length,0,())else(1,(yM bs n.toNat ds).2.drop (zB n.toNat ds).length,(yM bs n.toNat ds).1.i,()):=by
  unfold zK;rw[if_neg (by omega),if_neg (by omega)]
 rw[e];obtain⟨m,rfl⟩:=Int.eq_ofNat_of_zero_le (show 0<=n by omega);rw[Int.toNat_natCast];obtain⟨f1,f2,f3⟩:=Hx (bs:=bs) (ds:=ds) (n:=m) (by omega);have okr:okR bs ⟨0,0⟩:=fun _=>⟨Int.le_refl _,by simp only;omega⟩
 refine zb.mono (Pf (sz:=m) hi a2 c2 ds hc2 (by omega) hx2 (by omega) (by omega)) ?_;rintro _ h1 ⟨bw,TW,rfl,RW⟩;refine⟨_,rfl,?_⟩;intro bm hbm;obtain⟨k,hk⟩:∃k:KC,k=⟨a,c,bs,(zB m ds).length,100000,m,46,TW,bm,bw,[]⟩:=⟨_,rfl⟩;obtain⟨dd,at_,nn,hbw,R,s1,hnw⟩:=RW;have ne:bm≠bw:=fun e=>by rw[e,hbw]at hbm;cases hbm
 obtain⟨h2,hh2⟩:∃h2,h2=upd h1 bm (zX a c bs ((0:Nat):Int) ⟨.pointer (some ⟨bw,0,none⟩),.slice none 0 0,100000,false,.pointer none,.pointer none⟩ 46):=⟨_,rfl⟩;have sh2:qaB h h2:=by rw[hh2];exact s1.trans (Sub.zC hbm)
 have H0:IM h h2 k ⟨0,0⟩ (zB m ds) false (.pointer none) (.pointer none):=by
  subst hk;have ed:(zB m ds).drop (zB m ds).length=[]:=List.drop_length;refine⟨⟨0,none,0,by omega,fun _=>rfl,?_,?_,?_⟩,⟨dd,at_,nn,?_,by rw[F7];exact R,sh2,hnw⟩,ya s1 hbm,ne,sh2,⟨Nat.le_refl _,Nat.le_add_right _ _,by simp⟩⟩
  ·rw[hh2,upd_same];simp only[xk,KC.otl,ed,Nat.sub_self];rfl
  ·simp only[KC.otl,ed,vJ];exact Part.nil
  ·intro z hz;simp only[KC.otl,ed]at hz;cases hz
  ·rw[hh2,upd_ne (Ne.symm ne)];exact hbw
 have RA:Bh h k (8*bs.length+1) (yM bs m ds) (fnV k yq) h2 (mz k ⟨0,0⟩+0):=by
  refine⟨⟨0,0⟩,zB m ds,h,false,_,_,fun _ _ e=>e,H0,rfl,by subst hk;exact okr,8*bs.length+1,by subst hk;simp only;omega,.inl ⟨rfl,rfl,?_⟩⟩;subst hk;rfl
 have K:=Xc (S:=S) hi G (by subst hk;simp) (by subst hk;simp only;omega) (by subst hk;simp only;omega) (by subst hk;exact hx) (by subst hk;exact hL) (by subst hk;exact Nat.le_refl _) RA;have ebm:k.bm=bm:=by rw[hk]
 rw[ebm,hh2]at K;refine zb.mono K ?_;rintro _ h3 ⟨hb,last,l,d,rfl,sb,H3,ok3⟩;obtain⟨p,ao,co,hp,hr,hb3,P3,N3⟩:=H3.mt;obtain⟨_,g1,_,g3,_⟩:=yO hb3;rw[ebm]at g1 g3;have edl:k.otl (yM bs m ds).2=(yM bs m ds).2.drop (zB m ds).length:=by rw[hk];rfl
 rw[edl]at P3 N3 g3;have s3:=sb.trans H3.sb;have N3':qaD h (.slice ao ((yM bs m ds).2.drop (zB m ds).length).length co):=fun z hz=>ya sb (IM.xH N3 hz).2.2
 refine⟨yh (yM bs m ds).1.k,zg,by rw[zg],fun hz=>?_,fun hz=>?_⟩
 ·rw[zg,zP]at hz;have hk1:(yM bs m ds).1.k≠0:=by simpa using hz
  rw[if_pos hk1,zg,QZ hk1];refine⟨_,_,_,g3,?_⟩;refine zb.mono (MT (hi.sub s3) (E.sub s3)) ?_;rintro _ h4 ⟨rfl,s4⟩;refine⟨_,rfl,fun pp hpp=>?_,KQ (P3.sub s4) N3' (s3.trans s4)⟩;obtain rfl:=List.mem_singleton.1 hpp;simp only[Ex.ev,coerce,zc,ze,zd,zf,vA,vB,Nat.zero_add,zu,zf];exact xF s4 g3
 ·rw[zg,zP]at hz;have hk1:(yM bs m ds).1.k=0:=by simpa using hz
  rw[if_neg (fun h=>h hk1)];refine⟨_,_,_,g3,_,g1,?_⟩;rw[<-hr hk1];exact KQ P3 N3' s3
end
end
section
def w32(x:Int):Int:=IntKind.u32.wrap x
def ko(p:Int×Int)(x:Int):Int×Int:=
 ((w32 (p.1+w32 x)).tmod 65521,(w32 (p.2+(w32 (p.1+w32 x)).tmod 65521)).tmod 65521)
def EA(c:Int):Int×Int:=((c.tmod 65536).tmod 65521,(w32 (c.tdiv 65536)).tmod 65521)
def Ei(p:Int×Int):Int:=w32 (w32 (p.2*65536)+p.1)
def yQ(c:Int)(xs:List Int):Int:=Ei (xs.foldl ko (EA c))
theorem Nh{α β:Type}(f:α->β->α)(p:α){xs:List β}{i:Nat}(hi:i<xs.length):(xs.take (i+1)).foldl f p=f ((xs.take i).foldl f p) xs[i]:=by
 rw[List.take_add_one,List.getElem?_eq_getElem hi,List.foldl_append];rfl
theorem DD(hi:qaC S h)(c0:Int)(a:Option Addr)(c:Nat)(xs:List Int)(hx:zo h .u8 a xs)(hl:xs.length<=2^48) :
  zb oPP S wc #[.int .u32 c0,.slice a xs.length c] h (fun v h'=>v=.int .u32 (yQ c0 xs)/\h'=h):=by
 refine LR (vs:=[.int .u32 c0,.slice a xs.length c]) ⟨rfl,rfl,trivial⟩ hi ?_;simp only[Hc,Tr.wp,Ex.ev,coerce,toInt_int,za,zc,ze,zd,zf,zM,z9,arith,Cst.val,SV.den,zy,zV,zq,vA,vB,vC,decide_eq_true_eq,decide_eq_false_iff_not,vD,vE,vI,vH,and_true];refine⟨fun us h'=>∃i:Nat,us=[.int .u32 ((xs.take i).foldl ko (EA c0)).1,.int .u32 ((xs.take i).foldl ko (EA c0)).2,.int .i64 i]/\i<=xs.length/\h'=h,
  fun us _=>xs.length-(toInt (us.getD 2 undef)).toNat,⟨0,rfl,by omega,rfl⟩,?_⟩
 rintro x y z h' ⟨i,hx1,hi2,rfl⟩;simp only[List.cons.injEq,Value.int.injEq,true_and,and_true]at hx1;obtain⟨rfl,rfl,rfl⟩:=hx1;refine⟨fun hlt=>?_,fun hge=>?_⟩
 ·have hi3:i<xs.length:=by omega
  obtain⟨g1,g2⟩:=hx.cell (List.getElem?_eq_getElem hi3);have w2:IntKind.i64.wrap ((i:Int)+1)=((i+1:Nat):Int):=zr;refine⟨by simpa using g2,by omega,by omega,xs[i],by simpa[add_add]using g1,⟨i+1,?_,by omega,rfl⟩,?_⟩
  ·rw[w2,Nh ko (EA c0) hi3];rfl
  ·simp only[w2,vB,vA,toInt_int,Int.toNat_natCast];omega
 ·obtain rfl:i=xs.length:=by omega
  refine⟨?_,rfl⟩;rw[List.take_length];rfl
theorem kq(hi:qaC S h)(c0:Int)(a:Option Addr)(c:Nat)(xs:List Int)(hx:zo h .u8 a xs)(hl:xs.length<=2^48) :
  zb oPP S xG #[.int .u32 c0,.slice a xs.length c] h (fun v h'=>v=.int .u32 (yQ c0 xs)/\h'=h):=by
 refine FB (vs:=[.int .u32 c0,.slice a xs.length c]) ⟨rfl,rfl,trivial⟩ hi ?_;simp only[BX,Tr.wp,Ex.ev,coerce,toInt_int,za,zc,ze,zd,zf,zM,z9,arith,Cst.val,SV.den,zy,zV,zq,vA,vB,vC,decide_eq_true_eq,decide_eq_false_iff_not,vD,vE,vI,vH,and_true];refine⟨fun us h'=>∃i:Nat,us=[.int .u32 ((xs.take i).foldl ko (EA c0)).1,.int .u32 ((xs.take i).foldl ko (EA c0)).2,.int .i64 i]/\i<=xs.length/\h'=h,
  fun us _=>xs.length-(toInt (us.getD 2 undef)).toNat,⟨0,rfl,by omega,rfl⟩,?_⟩
 rintro x y z h' ⟨i,hx1,hi2,rfl⟩;simp only[List.cons.injEq,Value.int.injEq,true_and,and_true]at hx1;obtain⟨rfl,rfl,rfl⟩:=hx1;refine⟨fun hlt=>?_,fun hge=>?_⟩
 ·have hi3:i<xs.length:=by omega
  obtain⟨g1,g2⟩:=hx.cell (List.getElem?_eq_getElem hi3);have w2:IntKind.i64.wrap ((i:Int)+1)=((i+1:Nat):Int):=zr;refine⟨by simpa using g2,by omega,by omega,xs[i],by simpa[add_add]using g1,⟨i+1,?_,by omega,rfl⟩,?_⟩
  ·rw[w2,Nh ko (EA c0) hi3];rfl
  ·simp only[w2,vB,vA,toInt_int,Int.toNat_natCast];omega
 ·obtain rfl:i=xs.length:=by omega
  refine⟨?_,rfl⟩;rw[List.take_length];rfl
theorem U7(hi:qaC S h)(a:Option Addr)(c:Nat)(xs:List Int)(hx:zo h .u8 a xs)(hl:xs.length<=2^48) :
  zb oPP S AR #[.slice a xs.length c] h (fun v h'=>v=.int .u32 (yQ 1 xs)/\qaB h h'):=by
 refine E1 (vs:=[.slice a xs.length c]) ⟨rfl,trivial⟩ hi ?_;simp only[AW,Tr.wp,z4,Ex.ev,coerce,toInt_int,zc,ze,zd,Cst.val,SV.den,zn,zL,zz,zk,zi,zy,vF,vG,vA,vB,vD,vE,vI,vH,vJ,if_false,vK];refine(DD hi 1 a c xs hx hl).mono ?_;rintro _ h' ⟨rfl,rfl⟩;exact⟨_,rfl,rfl,fun _ _ h=>h⟩
end
section
def Mk:List Int->Int
 | []=>0
 | y::ys=>y+Mk ys
def Ml:List Int->Int
 | []=>0
 | y::ys=>((ys.length:Int)+1)*y+Ml ys
def okB(xs:List Int):Prop:=∀x∈xs,0<=x/\x<256
def okS(p:Int×Int):Prop:=0<=p.1/\p.1<65521/\0<=p.2/\p.2<65521
theorem UA{p:Int×Int}(hp:okS p)(hx:0<=x/\x<256):ko p x=((p.1+x)%65521,(p.2+(p.1+x)%65521)%65521)/\okS (ko p x):=by
 obtain⟨h1,h2,h3,h4⟩:=hp;have w1:w32 x=x:=by unfold w32;rw[IntKind.wrap_u32];omega
 have w2:w32 (p.1+x)=p.1+x:=by unfold w32;rw[IntKind.wrap_u32];omega
 have e1:(p.1+x).tmod 65521=(p.1+x)%65521:=Int.tmod_eq_emod_of_nonneg (by omega);have w3:w32 (p.2+(p.1+x)%65521)=p.2+(p.1+x)%65521:=by unfold w32;rw[IntKind.wrap_u32];omega
 have e2:(p.2+(p.1+x)%65521).tmod 65521=(p.2+(p.1+x)%65521)%65521:=Int.tmod_eq_emod_of_nonneg (by omega);have e:ko p x=((p.1+x)%65521,(p.2+(p.1+x)%65521)%65521):=by
  unfold ko;rw[w1,w2,e1,w3,e2]
 refine⟨e,?_⟩;rw[e];exact⟨by show 0<=_%_;omega,by show _%_<_;omega,by show 0<=_%_;omega,by show _%_<_;omega⟩
theorem Rl{a b k:Int}(h:a=b+65521*k):a%65521=b%65521:=by rw[h];omega
theorem Pu:∀(xs:List Int) (p:Int×Int),okS p->okB xs->xs.foldl ko p=((p.1+Mk xs)%65521,(p.2+xs.length*p.1+Ml xs)%65521):=by
 intro xs;induction xs with
 | nil=>
  rintro⟨a,b⟩ ⟨h1,h2,h3,h4⟩ _;simp only[List.foldl_nil,Mk,Ml,List.length_nil]at *;simp only[Prod.mk.injEq];refine⟨?_,?_⟩ <;> omega
 | cons x xs ih=>
  intro p hp hb;obtain⟨e,ok⟩:=UA hp (hb x (by simp));rw[List.foldl_cons,ih _ ok (fun y hy=>hb y (by simp[hy])),e];simp only[Mk,Ml,List.length_cons,Prod.mk.injEq];have d1:(p.1+x)%65521=p.1+x-65521*((p.1+x)/65521):=by omega
  have d2:(p.2+(p.1+x)%65521)%65521=p.2+(p.1+x)%65521-65521*((p.2+(p.1+x)%65521)/65521):=by omega
  refine⟨Rl (k := -((p.1+x)/65521)) (by omega),?_⟩;refine Rl (k := -((p.2+(p.1+x)%65521)/65521)-((xs.length:Int)+1)*((p.1+x)/65521)) ?_;rw[d2,d1];generalize (p.1+x)/65521=u;generalize (p.2+(p.1+x-65521*u))/65521=v
  push_cast
  simp only[Int.mul_add,Int.add_mul,Int.mul_sub,Int.mul_neg,Int.one_mul];have m1:(xs.length:Int)*(65521*u)=65521*((xs.length:Int)*u):=by rw[<-Int.mul_assoc,Int.mul_comm (xs.length:Int) 65521,Int.mul_assoc]
  omega
theorem Yc(h:okB xs)(h':okB ys):okB (xs++ys):=fun x hx=>(List.mem_append.1 hx).elim (h x) (h' x)
theorem Jp{p:Int×Int}(hp:okS p):Ei p=p.2*65536+p.1:=by
 obtain⟨h1,h2,h3,h4⟩:=hp;unfold Ei w32;rw[show IntKind.u32.wrap (p.2*65536)=p.2*65536 by rw[IntKind.wrap_u32];omega,IntKind.wrap_u32];omega
def KS(p q n:Int):Int:=
 IntKind.u32.wrap (IntKind.i64.wrap (IntKind.i64.wrap ((IntKind.i64.wrap ((IntKind.i64.wrap (IntKind.i64.wrap (IntKind.i64.wrap ((IntKind.u32.wrap (p.tdiv 65536)).tmod 65521)+IntKind.i64.wrap ((IntKind.u32.wrap (q.tdiv 65536)).tmod 65521)) +
  IntKind.i64.wrap (n*IntKind.i64.wrap (IntKind.i64.wrap ((p.tmod 65536).tmod 65521)-1)))).tmod 65521+65521)).tmod 65521*65536) +
  (IntKind.i64.wrap (IntKind.i64.wrap (IntKind.i64.wrap (IntKind.i64.wrap ((p.tmod 65536).tmod 65521)+IntKind.i64.wrap ((q.tmod 65536).tmod 65521))-1)+65521)).tmod 65521))
theorem UB{p q:Int×Int}(hp:okS p)(hq:okS q){n:Int}(h0:0<=n)(hn:n<=1000000) :
  KS (Ei p) (Ei q) n=((p.2+q.2+n*(p.1-1))%65521)*65536+(p.1+q.1-1)%65521:=by
 rw[Jp hp,Jp hq];obtain⟨h1,h2,h3,h4⟩:=hp;obtain⟨k1,k2,k3,k4⟩:=hq;have t1:∀x:Int,0<=x->∀m:Int,x.tmod m=x%m:=fun x hx m=>Int.tmod_eq_emod_of_nonneg hx
 have a1:(p.2*65536+p.1).tmod 65536=p.1:=by rw[t1 _ (by omega)];omega
 have a2:(q.2*65536+q.1).tmod 65536=q.1:=by rw[t1 _ (by omega)];omega
 have b1:(p.2*65536+p.1).tdiv 65536=p.2:=by rw[Int.tdiv_eq_ediv_of_nonneg (by omega)];omega
 have b2:(q.2*65536+q.1).tdiv 65536=q.2:=by rw[Int.tdiv_eq_ediv_of_nonneg (by omega)];omega
 have c1:∀x:Int,0<=x->x<65521->x.tmod 65521=x:=fun x hx hy=>by rw[t1 _ hx];omega
 have u1:∀x:Int,0<=x->x<65521->IntKind.u32.wrap x=x:=fun x hx hy=>by rw[IntKind.wrap_u32];omega
 have i1:∀x:Int,-4611686018427387904<=x->x<4611686018427387904->IntKind.i64.wrap x=x:=fun x hx hy=>by rw[IntKind.wrap_i64];omega
 unfold KS;rw[a1,a2,b1,b2,u1 p.2 h3 h4,u1 q.2 k3 k4,c1 p.1 h1 h2,c1 q.1 k1 k2,c1 p.2 h3 h4,c1 q.2 k3 k4,i1 p.1 (by omega) (by omega),i1 q.1 (by omega) (by omega),i1 p.2 (by omega) (by omega),i1 q.2 (by omega) (by omega),
  i1 (p.1-1) (by omega) (by omega),i1 (p.2+q.2) (by omega) (by omega),i1 (p.1+q.1) (by omega) (by omega),i1 (p.1+q.1-1) (by omega) (by omega),i1 (p.1+q.1-1+65521) (by omega) (by omega)]
 have nb1 : -1000000<=n*(p.1-1):=by
  rcases(by omega:p.1<1\/1<=p.1)with h | h
  ·have:p.1-1 = -1:=by omega
   rw[this];omega
  ·have:=Int.mul_nonneg h0 (show 0<=p.1-1 by omega);omega
 have nb2:n*(p.1-1)<=1000000*65521:=by
  rcases(by omega:p.1<1\/1<=p.1)with h | h
  ·have:p.1-1 = -1:=by omega
   rw[this];omega
  ·exact Int.mul_le_mul hn (by omega) (by omega) (by omega)
 generalize n*(p.1-1)=m at nb1 nb2;rw[i1 m (by omega) (by omega),i1 (p.2+q.2+m) (by omega) (by omega)];have tm:(p.2+q.2+m).tmod 65521=p.2+q.2+m-65521*(p.2+q.2+m).tdiv 65521:=by have:=Int.tmod_add_mul_tdiv (p.2+q.2+m) 65521;omega
 have tl:=Int.lt_tmod_of_pos (p.2+q.2+m) (show(0:Int)<65521 by omega);have tu:=Int.tmod_lt_of_pos (p.2+q.2+m) (show(0:Int)<65521 by omega);generalize (p.2+q.2+m).tdiv 65521=v at tm;generalize (p.2+q.2+m).tmod 65521=z at tm tl tu;rw[i1 (z+65521) (by omega) (by omega),t1 (z+65521) (by omega),t1 (p.1+q.1-1+65521) (by omega)];have e1:(z+65521)%65521=(p.2+q.2+m)%65521:=by omega
 have e2:(p.1+q.1-1+65521)%65521=(p.1+q.1-1)%65521:=by omega
 rw[e1,e2];generalize hB:(p.2+q.2+m)%65521=B;generalize hA:(p.1+q.1-1)%65521=A;have:0<=B/\B<65521/\0<=A/\A<65521:=by omega
 rw[i1 (B*65536) (by omega) (by omega),i1 _ (by omega) (by omega),IntKind.wrap_u32];omega
theorem Mm{p:Int×Int}(hp:okS p)(hb:okB xs):okS (xs.foldl ko p):=by
 rw[Pu xs p hp hb];exact⟨by show 0<=_%_;omega,by show _%_<_;omega,by show 0<=_%_;omega,by show _%_<_;omega⟩
theorem Wm:EA 1=(1,0):=by decide
theorem Yd{c:Int}(h:0<=c/\c<4294967296):okS (EA c):=by
 unfold EA w32;rw[Int.tdiv_eq_ediv_of_nonneg h.1,Int.tmod_eq_emod_of_nonneg h.1,IntKind.wrap_u32,Int.tmod_eq_emod_of_nonneg (by omega),Int.tmod_eq_emod_of_nonneg (by omega)];exact⟨by show 0<=_%_;omega,by show _%_<_;omega,by show 0<=_%_;omega,by show _%_<_;omega⟩
theorem Sz{p:Int×Int}(hp:okS p)(hb:okB ys)(hn:ys.length<=1000000):KS (Ei p) (yQ 1 ys) ys.length=Ei (ys.foldl ko p):=by
 have h1:okS (1,0):=⟨by decide,by decide,by decide,by decide⟩;unfold yQ;rw[Wm,UB hp (Mm h1 hb) (by omega) (by omega),Jp (Mm hp hb),Pu ys p hp hb,Pu ys (1,0) h1 hb];simp only[];have e1:(p.2+(0+(ys.length:Int)*1+Ml ys)%65521+(ys.length:Int)*(p.1-1))%65521=(p.2+(ys.length:Int)*p.1+Ml ys)%65521:=by
  rw[Int.mul_sub,Int.mul_one];omega
 have e2:(p.1+(1+Mk ys)%65521-1)%65521=(p.1+Mk ys)%65521:=by omega
 rw[e1,e2]
end
variable {u1:Value}
section
abbrev qo:=Int×List Int×Int×Unit
def jP:Ty Value qo:=NV (BV (HX .i64) (BV tB (BV (HX .i64) (NU))))
theorem CK{x:qo}(H:jP.O h v x):∃u1,v=.agg #[Value.int .i64 x.1,u1,Value.int .i64 x.2.2.1]/\tB.O h u1 x.2.1:=by
 obtain⟨_,rfl,_,_,rfl,(rfl:_=_),⟨u1,_,rfl,H1,⟨_,_,rfl,(rfl:_=_),⟨rfl⟩,d2⟩,d1⟩,d0⟩:=H;exact⟨u1,rfl,H1⟩
theorem Hz{x:qo}(H1:tB.O h u1 x.2.1):jP.O h (.agg #[Value.int .i64 x.1,u1,Value.int .i64 x.2.2.1]) x:=by
 unfold jP;simp only[LJ,IZ,QN,QO,F6,HZ,HY,or_false,not_false_eq_true,implies_true,and_true,true_and,forall_false]
 first | exact H1 | simp_all
theorem KT{x:qo}:jP.B (.agg #[Value.int .i64 x.1,u1,Value.int .i64 x.2.2.1]) b<->tB.B u1 b:=by
 unfold jP;simp only[QM,F6,HZ,HY,false_or,or_false]
variable {w : Value}{x:qo}
end
variable {us:List Int}{h1:qaA}
section
def hig(bs:List Int):Nat->Rd->Int->Rd×Int
 | 0,r,x=>(r,x)
 | n+1,r,x=>hig bs n (tk bs 8 r).1 (256*x+(tk bs 8 r).2)
def bdK(k:Int)(w:Bool)(r:Rd):Rd:=if r.k=0/\w=true then⟨r.i,k⟩else r
theorem BD(h:r.k≠0):bdK k w r=r:=by unfold bdK;rw[if_neg (fun e=>h e.1)]
theorem Pv(hk:k≠0)(H:okR bs r):okR bs (bdK k w r):=by
 unfold bdK;split
 ·intro h;exact absurd h hk
 ·exact H
theorem Fl:∀ {n:Nat} {r:Rd} {x:Int},okR bs r->okR bs (hig bs n r x).1
 | 0,r,x,H=>H
 | n+1,r,x,H=>by unfold hig;exact Fl (y7 H)
theorem AD(h:r.k≠0):tk bs n r=(r,0):=by unfold tk;rw[if_neg h]
theorem BE:∀ {n:Nat} {r:Rd} {x:Int},r.k≠0->(hig bs n r x).1=r
 | 0,r,x,H=>rfl
 | n+1,r,x,H=>by
  unfold hig;have e:tk bs 8 r=(r,0):=AD H;rw[e];exact BE H
theorem Rm{bs:List Int}:∀ {n:Nat} {r:Rd} {x:Int} {m:Int},0<=x->x<m->0<=(hig bs n r x).2/\(hig bs n r x).2<m*256^n
 | 0,r,x,m,h0,h1=>by simp[hig];exact⟨h0,h1⟩
 | n+1,r,x,m,h0,h1=>by
  unfold hig;have nm:=yp (bs:=bs) (n:=8) (r:=r);have e8:(2:Int)^8=256:=by decide
  rw[e8]at nm;have:=Rm (bs:=bs) (n:=n) (r:=(tk bs 8 r).1) (x:=256*x+(tk bs 8 r).2) (m:=256*m) (by omega) (by omega);refine⟨this.1,?_⟩;have e:m*256^(n+1)=256*m*256^n:=by rw[Int.pow_succ];ac_rfl
  rw[e];exact this.2
theorem Ro(h:r.k≠0):alg r=r:=by unfold alg;rw[if_neg h]
def zE(bs:List Int)(sz:Nat)(us:List Int)(r:Rd):Rd×List Int:=blF bs (zB sz us).length 100000 sz (8*bs.length+1) (8*bs.length+1) r (zB sz us)
def zO(bs:List Int)(sz:Nat)(us:List Int)(r:Rd):List Int:=(zE bs sz us r).2.drop (zB sz us).length
def zT(bs:List Int)(sz:Nat)(us:List Int)(r:Rd):Rd×Int:=hig bs 4 (alg (zE bs sz us r).1) 0
def zF(bs:List Int)(sz:Nat)(us:List Int)(r:Rd):Rd:=bdK 4 ((zT bs sz us r).2 != yQ 1 (zO bs sz us r)) (zT bs sz us r).1
def zA(bs:List Int)(sz:Nat)(us:List Int)(r:Rd):qo:=if(zF bs sz us r).k≠0 then((zF bs sz us r).k,zO bs sz us r,0,())else(1,zO bs sz us r,(zF bs sz us r).i/8,())
def zH(bs:List Int):Rd×Int:=hig bs 2 ⟨0,0⟩ 0
def zW(x:Int):Bool:=x%31 != 0||x/256%16 != 8||decide (7<x/4096)
def zR(bs:List Int):Rd:=bd (zW (zH bs).2) (zH bs).1
def zS(x:Int):Nat:=if x/4096<=7 then 2^(x/4096+8).toNat else 32768
def zId(bs:List Int):Rd×Int:=hig bs 4 (zR bs) 0
def zD(bs ds:List Int):Rd×List Int:=
 if(zH bs).2/32%2=1 then(bdK 5 (decide (ds.length=0)||(yQ 1 ds != (zId bs).2)) (zId bs).1,ds)else(zR bs,[])
def xM(bs ds:List Int):qo:=if bs.length>65536 then(7,[],0,())else zA bs (zS (zH bs).2) (zD bs ds).2 (zD bs ds).1
theorem UC(h:r.k≠0):zA bs sz us r=(r.k,[],0,()):=by
 have e1:zE bs sz us r=(r,zB sz us):=BB h;have e2:zO bs sz us r=[]:=by unfold zO;rw[e1];exact List.drop_length
 have e3:(zT bs sz us r).1=r:=by unfold zT;rw[e1];simp only;rw[Ro h,BE h]
 have e4:zF bs sz us r=r:=by unfold zF;rw[e3,BD h]
 unfold zA;rw[e4,if_pos h,e2]
theorem Rp(s:qaB h0 h'):jP.O h' (.agg #[.int .i64 k,.slice none 0 0,.int .i64 0]) (k,[],0,())/\jP.New h0 (.agg #[.int .i64 k,.slice none 0 0,.int .i64 0])/\qaB h0 h':=
 ⟨Hz (x:=(k,[],0,())) Part.nil,fun b hb=>(by have:=(KT (x:=(k,[],0,()))).1 hb;cases this),s⟩
theorem Od{k n:Int}(P:Part .u8 h' v xs)(N:qaD h0 v)(s:qaB h0 h'):jP.O h' (.agg #[.int .i64 k,v,.int .i64 n]) (k,xs,n,())/\jP.New h0 (.agg #[.int .i64 k,v,.int .i64 n])/\qaB h0 h':=
 ⟨Hz (x:=(k,xs,n,())) P,fun b hb=>N b ((KT (x:=(k,xs,n,()))).1 hb),s⟩
def PZ(h0:qaA)(x:qo)(v:Value)(h':qaA):Prop:=jP.O h' v x/\jP.New h0 v/\qaB h0 h'
theorem Jq(hi:qaC S h)(hx:zo h .u8 a bs)(L:bs.length<=1048576)(r:Rd)(ok:okR bs r)(n:Nat)(hn:n<=4) :
  zb oPP S qA #[rdV a c bs r,.int .i64 n] h (fun v h'=>v=.tuple #[rdV a c bs (hig bs n r 0).1,.int .i64 (hig bs n r 0).2]/\h'=h):=by
 refine Kn (vs:=[.slice a bs.length c,.int .i64 r.i,.int .i64 r.k,.int .i64 n]) ⟨rfl,rfl,rfl,rfl,trivial⟩ hi ?_;simp only[Gm,Tr.wp,z4,Ex.ev,coerce,toInt_int,za,zc,ze,zd,z9,arith,Cst.val,SV.den,zn,zL,zz,zk,zi,zy,zV,vF,vG,vA,vB,vC,decide_eq_true_eq,decide_eq_false_iff_not,vD,vE,vI,vH,vJ,List.length_cons,List.length_nil,Nat.zero_add,if_true,if_false,vK];refine⟨fun us h'=>∃(j:Nat) (r':Rd) (x:Int),us=[.int .i64 x,.int .i64 j,.slice a bs.length c,.int .i64 r'.i,.int .i64 r'.k]/\j<=n/\okR bs r'/\0<=x/\x<256^j/\hig bs (n-j) r' x=hig bs n r 0/\h'=h,fun us _=>n-(toInt (us.getD 1 undef)).toNat,⟨0,r,0,rfl,by omega,ok,by omega,by simp,by simp,rfl⟩,?_⟩;rintro x0 x1 b1 m1 d1 x2 x3 h' ⟨j,r',x,hx1,hj,ok',g0,g1,e,rfl⟩;simp only[List.cons.injEq,Value.int.injEq,Value.slice.injEq,true_and,and_true]at hx1;obtain⟨rfl,rfl,⟨rfl,rfl,rfl⟩,rfl,rfl⟩:=hx1;refine⟨fun hlt=>?_,fun hge=>?_⟩
 ·have hjn:j<n:=by omega
  refine(xD hi hx L r' ok' 8 (by omega)).mono ?_;rintro _ h2 ⟨rfl,rfl⟩;have nm:=yp (bs:=bs) (n:=8) (r:=r');have e8:(2:Int)^8=256:=by decide
  rw[e8]at nm;have hp:(256:Int)^j<=256^3:=by
   have:((256^j:Nat):Int)<=((256^3:Nat):Int):=by exact_mod_cast Nat.pow_le_pow_right (by decide) (show j<=3 by omega)
   simpa using this
  have e3:(256:Int)^3=16777216:=by decide
  have w1:IntKind.i64.wrap (IntKind.i64.wrap (256*x0)+(tk bs 8 r').2)=256*x0+(tk bs 8 r').2:=by
   rw[i64_in (256*x0) (by omega),i64_in _ (by omega)]
  have w2:IntKind.i64.wrap ((j:Int)+1)=((j+1:Nat):Int):=zr;refine⟨_,_,_,_,_,_,rfl,?_⟩;rw[w1,w2];refine⟨⟨j+1,(tk bs 8 r').1,_,rfl,by omega,y7 ok',by omega,by rw[Int.pow_succ];omega,?_,rfl⟩,by simp only[vB,vA,toInt_int];omega⟩;rw[<-e,show n-j=n-(j+1)+1 by omega];rfl
 ·obtain rfl:j=n:=by omega
  rw[Nat.sub_self]at e;rw[<-e];exact⟨rfl,rfl⟩
theorem QA(hi:qaC S h)(a:Option Addr)(c:Nat)(L:bs.length<=1048576)(r:Rd)(ok:okR bs r) :
  zb oPP S Ao #[rdV a c bs r] h (fun v h'=>v=rdV a c bs (alg r)/\h'=h):=by
 refine He (vs:=[.slice a bs.length c,.int .i64 r.i,.int .i64 r.k]) ⟨rfl,rfl,rfl,trivial⟩ hi ?_;simp only[Dt,Tr.wp,Ex.ev,coerce,toInt_int,za,zc,ze,zd,xL,z9,arith,Cst.val,SV.den,vA,vB,vD,vE,and_true];obtain⟨i,k⟩:=r;unfold alg rdV;by_cases h0:k=0
 ·have:=ok h0;simp only at this;subst h0;have w:IntKind.i64.wrap (IntKind.i64.wrap ((IntKind.i64.wrap (i+7)).tdiv 8)*8)=(i+7)/8*8:=by
   rw[i64_in (i+7) (by omega),Int.tdiv_eq_ediv_of_nonneg (by omega),i64_in ((i+7)/8) (by omega),i64_in _ (by omega)]
  simp[w]
 ·simp[h0]
theorem Ye(hi:qaC S h)(a:Option Addr)(c:Nat)(bs:List Int)(r:Rd)(w:Bool) :
  zb oPP S Df #[rdV a c bs r,.bool w] h (fun v h'=>v=rdV a c bs (bdK 4 w r)/\h'=h):=by
 refine LU (vs:=[.slice a bs.length c,.int .i64 r.i,.int .i64 r.k,.bool w]) ⟨rfl,rfl,rfl,rfl,trivial⟩ hi ?_;simp only[Hf,Tr.wp,Ex.ev,coerce,toInt_int,za,zc,ze,zd,xg,xL,z9,Cst.val,SV.den,vA,vB,vD,vE,and_true];obtain⟨i,k⟩:=r;unfold bdK rdV;by_cases h0:k=0
 ·subst h0;cases w <;> simp
 ·simp[h0]
theorem Ni(xs:List Int):IntKind.i64.wrap (yQ 1 xs)=yQ 1 xs:=by
 have:0<=yQ 1 xs/\yQ 1 xs<4294967296:=by unfold yQ Ei w32;rw[IntKind.wrap_u32];omega
 exact i64_in _ (by omega)
theorem Pw(hsz:sz<=32768):(zB sz us).length<=32768/\(zB sz us).length<=(zE bs sz us r).2.length/\(zE bs sz us r).2.length<=(zB sz us).length+100000:=by
 have h1:(zB sz us).length<=32768:=by rw[je];omega
 have:=Mh (bs:=bs) (dl:=(zB sz us).length) (room:=100000) (sz:=sz) (F:=8*bs.length+1) (f:=8*bs.length+1) (r:=r) (al:=zB sz us) (Nat.le_refl _) (by omega);exact⟨h1,this.1,this.2⟩
theorem Xd(hi:qaC S h)(s:qaB h h1)(hx:zo h .u8 a bs)(L:bs.length<=65536)(r:Rd)(ok:okR bs r)(hsz:sz<=32768)
  {au:Option Addr}{cu:Nat}(hu:zo h1 .u8 au us)(hcu:us.length<=cu)(hul:us.length<=1048576)(K0:Kt)(e0 e1 e2 e3 e4 e5 e6 e7 e8 e10 e11:Value) :
  zsE.wp oPP S yb (PZ h (zA bs sz us r)) [e0,e1,e2,e3,e4,e5,e6,e7,e8,.int .i64 sz,e10,e11,.slice au us.length cu,.slice a bs.length c,.int .i64 r.i,.int .i64 r.k] h1 [K0]:=by
 simp only[zsE,Tr.wp,z4,Ex.ev,coerce,toInt_int,za,zc,ze,zd,z9,arith,Cst.val,SV.den,zn,zL,zz,zk,zi,zy,vF,vG,vA,vB,vD,vE,vI,vH,vJ,List.length_cons,List.length_nil,Nat.zero_add,if_true,if_false,vK];obtain⟨f1,f2,f3⟩:=Pw (bs:=bs) (us:=us) (r:=r) hsz;have i1:=hi.sub s;have hx1:=hx.sub s;refine(Nd i1 au cu us sz 100000 hcu (by omega) hsz hu).mono ?_;rintro _ h2 ⟨a3,c3,rfl,P3,N3,s3⟩;refine⟨_,_,_,_,_,_,rfl,?_⟩;have K:=KO (c:=c) (dl:=(zB sz us).length) (sz:=sz) (room:=100000) i1 s3 hx1 (by omega) r ok P3 N3 (Nat.le_refl _) (by omega) (by omega) (by omega) (by omega) (8*bs.length+1) (Nat.le_refl _) (8*bs.length+1) (Nat.le_refl _);refine zb.mono K ?_;rintro _ h4 ⟨a4,c4,rfl,P4,N4,s4⟩;have eF:blF bs (zB sz us).length 100000 sz (8*bs.length+1) (8*bs.length+1) r (zB sz us)=zE bs sz us r:=rfl;have okE:okR bs (zE bs sz us r).1:=KP ok;rw[eF]at P4 N4 ⊢;refine⟨_,_,_,_,_,_,_,_,_,_,_,rfl,?_⟩;refine zb.mono (Mi (dl:=(zB sz us).length) (sz:=sz) (room:=100000) i1 s4 P4 f2 (by omega)) ?_;rintro v5 h5 ⟨P5,N5,s5⟩;have eO:(zE bs sz us r).2.drop (zB sz us).length=zO bs sz us r:=rfl;rw[eO]at P5;obtain⟨a5,c5,rfl,hc5,g5⟩:=P5.ints;refine⟨_,_,_,rfl,?_⟩;refine zb.mono (QA (i1.sub s5) a c (show bs.length<=1048576 by omega) (zE bs sz us r).1 okE) ?_;rintro _ h6 ⟨rfl,rfl⟩;refine⟨_,_,_,_,_,rfl,?_⟩;refine zb.mono (Jq (c:=c) (i1.sub s5) (hx1.sub s5) (by omega) (alg (zE bs sz us r).1) (Bg okE) 4 (by omega)) ?_;rintro _ h6 ⟨rfl,rfl⟩;refine⟨_,_,_,_,_,_,rfl,?_⟩;have hO:(zO bs sz us r).length<=100000:=by unfold zO;rw[List.length_drop];omega
 refine zb.mono (kq (i1.sub s5) 1 a5 c5 (zO bs sz us r) g5 (by omega)) ?_;rintro _ h6 ⟨rfl,rfl⟩;refine⟨_,rfl,?_⟩;have eT:hig bs 4 (alg (zE bs sz us r).1) 0=zT bs sz us r:=rfl;rw[eT,Ni];refine zb.mono (Ye (i1.sub s5) a c bs (zT bs sz us r).1 ((zT bs sz us r).2 != yQ 1 (zO bs sz us r))) ?_;rintro _ h6 ⟨rfl,rfl⟩;have eZ:bdK 4 ((zT bs sz us r).2 != yQ 1 (zO bs sz us r)) (zT bs sz us r).1=zF bs sz us r:=rfl;rw[eZ];have okF:okR bs (zF bs sz us r):=Pv (by decide) (Fl (Bg okE));have N5':qaD h (.slice a5 (zO bs sz us r).length c5):=fun z hz=>ya s (N5 z hz)
 refine⟨_,_,_,_,_,rfl,fun hne=>?_,fun heq=>?_⟩
 ·have hk:(zF bs sz us r).k≠0:=by simpa using hne
  have e:zA bs sz us r=((zF bs sz us r).k,zO bs sz us r,0,()):=if_pos hk;rw[e];exact Od P5 N5' (s.trans s5)
 ·have hk:(zF bs sz us r).k=0:=by simpa using heq
  have e:zA bs sz us r=(1,zO bs sz us r,(zF bs sz us r).i/8,()):=if_neg (fun h=>h hk);have:=okF hk;have w:IntKind.i64.wrap ((zF bs sz us r).i.tdiv 8)=(zF bs sz us r).i/8:=by rw[Int.tdiv_eq_ediv_of_nonneg (by omega),i64_in _ (by omega)]
  rw[e,w];exact Od P5 N5' (s.trans s5)
end
section
theorem okB_drop'(H:okB xs)(n:Nat):okB (xs.drop n):=fun x hx=>H x (List.mem_of_mem_drop hx)
theorem Yf:okB []:=fun x hx=>by cases hx
theorem Rq(h:0<=x/\x<256):okB [x]:=fun y hy=>by rw[List.mem_singleton.1 hy];exact h
section
theorem Jr{al d:List Int}(H:okB al)(G:okB d):okB (tell dl room r al d).2:=by
 unfold tell;split
 ·split
  ·exact H
  ·exact Yc H G
 ·exact H
theorem Yg(H:okB al):okB (cpD al dist n):=fun x hx=>by
 unfold cpD at hx;obtain⟨k,_,rfl⟩:=List.mem_map.1 hx;rw[List.getD_eq_getElem?_getD];cases hg:al[al.length-dist+k%dist]? with
 | none=>simp
 | some y=>exact H y (List.mem_of_getElem? hg)
theorem Rr:∀ {n:Nat} {r:Rd} {al:List Int},okB al->okB (stL bs dl room n r al).2
 | 0,r,al,H=>H
 | n+1,r,al,H=>by
  unfold stL;split
  ·have nm:=yp (bs:=bs) (n:=8) (r:=r);have e8:(2:Int)^8=256:=by decide
   exact Rr (Jr H (Rq (by omega)))
  ·exact H
theorem Yh(H:okB al):okB (cpF bs cd dl room sz r al s).2:=by
 unfold cpF;split
 ·exact H
 ·split
  ·exact H
  ·exact Jr H (Yg H)
theorem Yi(hx:0<=x)(H:okB al):okB (sy1 bs cd dl room sz r al x).2:=by
 unfold sy1;split
 ·exact Jr H (Rq (by omega))
 ·split
  ·exact H
  ·exact Yh H
theorem Mn:∀ {f:Nat} {r:Rd} {al:List Int},okB al->okB (syF bs cl cd dl room sz f r al).2
 | 0,r,al,H=>H
 | f+1,r,al,H=>by
  unfold syF;split
  ·split
   ·exact H
   ·rename_i h;have hk:(sy bs cl r).1.k=0:=by
     by_cases e:(sy bs cl r).1.k=0
     ·exact e
     ·exact absurd (.inl e) h
    exact Mn (Yi (zaM hk).2.2.1 H)
  ·exact H
theorem Rs(H:okB al):okB (blk bs dl room sz F r al).2:=by
 unfold blk;split
 ·exact H
 ·split
  ·exact Rr H
  ·split
   ·exact Mn H
   ·split
    ·exact H
    ·exact Mn H
theorem Rt:∀ {f:Nat} {r:Rd} {al:List Int},okB al->okB (blF bs dl room sz F f r al).2
 | 0,r,al,H=>H
 | f+1,r,al,H=>by
  unfold blF;split
  ·split
   ·exact Rs H
   ·exact Rt (Rs H)
  ·exact H
end
theorem Zw(H:okB us):okB (zO bs sz us r):=okB_drop' (Rt (okB_drop' H _)) _
theorem Yj(h:(zE bs sz us r).1.k≠0):zA bs sz us r=((zE bs sz us r).1.k,zO bs sz us r,0,()):=by
 have e3:(zT bs sz us r).1=(zE bs sz us r).1:=by unfold zT;rw[Ro h,BE h]
 have e4:zF bs sz us r=(zE bs sz us r).1:=by unfold zF;rw[e3,BD h]
 unfold zA;rw[e4,if_pos h]
theorem Yk(h:(zT bs sz us r).1.k≠0):zA bs sz us r=((zT bs sz us r).1.k,zO bs sz us r,0,()):=by
 have e4:zF bs sz us r=(zT bs sz us r).1:=by unfold zF;rw[BD h]
 unfold zA;rw[e4,if_pos h]
theorem Zx(h:(zT bs sz us r).1.k=0)(hs:(zT bs sz us r).2≠yQ 1 (zO bs sz us r)):zA bs sz us r=(4,zO bs sz us r,0,()):=by
 have e4:zF bs sz us r=⟨(zT bs sz us r).1.i,4⟩:=by unfold zF bdK;rw[if_pos ⟨h,by simpa using hs⟩]
 unfold zA;rw[e4,if_pos (show(4:Int)≠0 by decide)]
theorem Yn(h:(zT bs sz us r).1.k=0)(hs:(zT bs sz us r).2=yQ 1 (zO bs sz us r)):zA bs sz us r=(1,zO bs sz us r,(zT bs sz us r).1.i/8,()):=by
 have e4:zF bs sz us r=(zT bs sz us r).1:=by unfold zF bdK;rw[if_neg (fun e=>by rw[hs]at e;simp at e)]
 unfold zA;rw[e4,if_neg (fun e=>e h)]
end
section
theorem Px:0<=(zH bs).2/\(zH bs).2<65536:=by
 have:=Rm (bs:=bs) (n:=2) (r:=⟨0,0⟩) (x:=0) (m:=1) (by omega) (by omega);have e:(1:Int)*256^2=65536:=by decide
 rw[e]at this;exact this
theorem Xe(h0:0<=x):zS x<=32768:=by
 unfold zS;split
 ·have:(2:Nat)^(x/4096+8).toNat<=2^15:=Nat.pow_le_pow_right (by decide) (by omega);have e:(2:Nat)^15=32768:=by decide
  omega
 ·omega
theorem zaz:okR bs (zH bs).1:=Fl fun _=>⟨Int.le_refl _,by simp only;omega⟩
theorem Oe:okR bs (zR bs):=jC zaz
theorem za0:okR bs (zD bs ds).1:=by
 unfold zD;split
 ·exact Pv (by decide) (Fl Oe)
 ·exact Oe
theorem Xf(hi:qaC S h)(s:qaB h h1)(hx:zo h .u8 a bs)(L:bs.length<=65536)
  {cd:Nat}(hd:zo h .u8 ad ds)(hcd:ds.length<=cd)(hdl:ds.length<=1048576)(K0:Kt)(e0 e2 e3 e4:Value) :
  zsD.wp oPP S yb (PZ h (zA bs (zS (zH bs).2) (zD bs ds).2 (zD bs ds).1)) [e0,.slice ad ds.length cd,e2,e3,e4,.int .i64 (zH bs).2,.slice a bs.length c,.int .i64 (zR bs).i,.int .i64 (zR bs).k,.int .i64 (zS (zH bs).2)] h1 [K0]:=by
 simp only[zsD,Tr.wp,z4,Ex.ev,coerce,toInt_int,za,zc,ze,zd,xL,z9,arith,Cst.val,SV.den,zn,zL,zz,zk,zi,zy,vF,vG,vA,vB,vC,List.getElem?_cons_succ,vD,vE,vI,vH,vJ,List.length_cons,List.length_nil,Nat.zero_add,if_true,if_false,vK];intro b hb;have hn:=Px (bs:=bs);have wq:(IntKind.i64.wrap ((zH bs).2.tdiv 32)).tmod 2=(zH bs).2/32%2:=by
  rw[Int.tdiv_eq_ediv_of_nonneg (by omega),i64_in _ (by omega),Int.tmod_eq_emod_of_nonneg (by omega)]
 have hsz:=Xe hn.1;have s2:qaB h1 (upd h1 b (.cells (ints .u8 []) 5)):=Sub.zC hb;have e0':(#[]:Array Value)=ints .u8 []:=rfl;rw[wq];refine⟨fun hc=>?_,fun hc=>?_⟩
 ·have hc:(zH bs).2/32%2=1:=beq_iff_eq.1 hc;refine zb.mono (Jq (c:=c) (hi.sub (s.trans s2)) (hx.sub (s.trans s2)) (by omega) (zR bs) Oe 4 (by omega)) ?_;rintro _ h2 ⟨rfl,rfl⟩;have eI:hig bs 4 (zR bs) 0=zId bs:=rfl;rw[eI];refine⟨_,_,_,_,_,_,rfl,?_⟩;have eD2:(zD bs ds).2=ds:=by unfold zD;rw[if_pos hc]
  have eD1:(zD bs ds).1=bdK 5 (decide (ds.length=0)||(yQ 1 ds != (zId bs).2)) (zId bs).1:=by unfold zD;rw[if_pos hc]
  have okD:=za0 (bs:=bs) (ds:=ds);have fin:∀(w:Bool),((zId bs).1.k=0->w=(decide (ds.length=0)||(yQ 1 ds != (zId bs).2)))->((zId bs).1.k≠0->w=false)->(zId bs).1.i=(zD bs ds).1.i/\(if w=true then 5 else(zId bs).1.k)=(zD bs ds).1.k:=by
   intro w h1 h2;rw[eD1];unfold bdK;by_cases hk:(zId bs).1.k=0
   ·rw[<-h1 hk];cases w with
    | false=>rw[if_neg (by simp)];simp
    | true=>rw[if_pos ⟨hk,rfl⟩];simp
   ·rw[if_neg (fun e=>hk e.1),h2 hk];simp
  have go:∀(w:Bool) (e15:Value),((zId bs).1.k=0->w=(decide (ds.length=0)||(yQ 1 ds != (zId bs).2)))->((zId bs).1.k≠0->w=false)->∀(K0:Kt) (e0 e1 e2 e3 e4 e5 e6 e7 e8 e10 e11:Value),
    zsE.wp oPP S yb (PZ h (zA bs (zS (zH bs).2) (zD bs ds).2 (zD bs ds).1)) [e0,e1,e2,e3,e4,e5,e6,e7,e8,.int .i64 (zS (zH bs).2),e10,e11,.slice ad ds.length cd,.slice a bs.length c,.int .i64 (zId bs).1.i,.int .i64 (if w=true then 5 else(zId bs).1.k)] (upd h1 b (.cells (ints .u8 []) 5)) [K0]:=by
   intro w e15 h1 h2 K0 e0 e1 e2 e3 e4 e5 e6 e7 e8 e10 e11;obtain⟨q1,q2⟩:=fin w h1 h2;rw[q1,q2,eD2];exact Xd hi (s.trans s2) hx L (zD bs ds).1 okD hsz (hd.sub (s.trans s2)) hcd hdl K0 _ _ _ _ _ _ _ _ _ _ _
  refine⟨fun hk=>?_,fun hk=>?_⟩
  ·have hk:(zId bs).1.k=0:=beq_iff_eq.1 hk;refine⟨fun hl=>?_,fun hl=>?_⟩
   ·have hl:ds.length≠0:=by simpa using hl
    refine zb.mono (kq (hi.sub (s.trans s2)) 1 ad cd ds (hd.sub (s.trans s2)) (by omega)) ?_;rintro _ h3 ⟨rfl,rfl⟩;refine⟨_,rfl,?_⟩;intro _ _;rw[Ni];refine go _ undef (fun _=>?_) (fun h=>absurd hk h) _ _ _ _ _ _ _ _ _ _ _ _;have:decide (ds.length=0)=false:=by simpa using hl
    rw[this,Bool.false_or]
   ·have hl:ds.length=0:=by simpa using hl
    intro _ _;exact go true undef (fun _=>by rw[hl];rfl) (fun h=>absurd hk h) _ _ _ _ _ _ _ _ _ _ _ _
  ·have hk:(zId bs).1.k≠0:=by simpa using hk
   intro _ _;exact go false undef (fun h=>absurd h hk) (fun _=>rfl) _ _ _ _ _ _ _ _ _ _ _ _
 ·have hc:(zH bs).2/32%2≠1:=by simpa using hc
  have eD:zD bs ds=(zR bs,[]):=by unfold zD;rw[if_neg hc]
  intro _;rw[eD];have K:=Xd (S:=S) (c:=c) (us:=[]) hi (s.trans s2) hx L (zR bs) Oe hsz (zo.new (k:=.u8) (h:=h1) (b:=b) (T:=5) (xs:=[])) (cu:=0) (Nat.le_refl _) (by simp) K0;exact K _ _ _ _ _ _ _ _ _ _ _
theorem g_spec_Zlib'(hi:qaC S h)(O:tB.O h v bs)(L:Bf bs)(O2:tB.O h u ds)(L2:Bf ds) :
  zb oPP S BM #[v,u] h (PZ h (xM bs ds)):=by
 obtain⟨a,c,rfl,hc,hx⟩:=Part.ints O;obtain⟨a2,c2,rfl,hc2,hx2⟩:=Part.ints O2;have hL:bs.length<=1048576:=L;have hL2:ds.length<=1048576:=L2;refine ND (vs:=[.slice a bs.length c,.slice a2 ds.length c2]) ⟨rfl,rfl,trivial⟩ hi ?_;simp only[II,Tr.wp,z4,Ex.ev,coerce,toInt_int,za,zc,ze,zd,jA,z9,arith,Cst.val,SV.den,zn,zL,zz,zk,zi,zy,vF,vG,vA,vB,vC,List.getElem?_cons_succ,decide_eq_true_eq,decide_eq_false_iff_not,vD,vE,vI,vH,vJ,List.length_cons,List.length_nil,Nat.zero_add,if_true,if_false,vK];refine⟨fun hgt=>?_,fun hle=>?_⟩
 ·have e:xM bs ds=(7,[],0,()):=if_pos (by omega);rw[e];exact Rp (fun _ _ e=>e)
 have hle:bs.length<=65536:=by omega
 have e:xM bs ds=zA bs (zS (zH bs).2) (zD bs ds).2 (zD bs ds).1:=if_neg (by omega);rw[e];have hn:=Px (bs:=bs);have ok0:okR bs ⟨0,0⟩:=fun _=>⟨Int.le_refl _,by simp only;omega⟩
 refine zb.mono (Jq (c:=c) hi hx hL ⟨0,0⟩ ok0 2 (by omega)) ?_;rintro _ h1 ⟨rfl,rfl⟩;have eH:hig bs 2 ⟨0,0⟩ 0=zH bs:=rfl;rw[eH];refine⟨_,_,_,_,_,_,rfl,?_⟩;have t31:(zH bs).2.tmod 31=(zH bs).2%31:=Int.tmod_eq_emod_of_nonneg hn.1;have t256:IntKind.i64.wrap ((zH bs).2.tdiv 256)=(zH bs).2/256:=by rw[Int.tdiv_eq_ediv_of_nonneg hn.1,i64_in _ (by omega)]
 have t16:((zH bs).2/256).tmod 16=(zH bs).2/256%16:=Int.tmod_eq_emod_of_nonneg (by omega);have t4096:IntKind.i64.wrap ((zH bs).2.tdiv 4096)=(zH bs).2/4096:=by rw[Int.tdiv_eq_ediv_of_nonneg hn.1,i64_in _ (by omega)]
 rw[t31,t256,t16,t4096];have eW:(decide ((decide (((zH bs).2%31 != 0)=true)||(zH bs).2/256%16 != 8)=true)||decide ((zH bs).2/4096>7))=zW (zH bs).2:=by
  unfold zW;simp only[Bool.decide_eq_true]
 rw[eW];refine zb.mono (xZ hi a c bs (zH bs).1 (zW (zH bs).2)) ?_;rintro _ h2 ⟨rfl,rfl⟩;have eR:bd (zW (zH bs).2) (zH bs).1=zR bs:=rfl;rw[eR];refine⟨_,_,_,_,_,rfl,fun h7=>?_,fun h7=>?_⟩
 ·have wp:IntKind.i64.wrap ((zH bs).2/4096+8)=(zH bs).2/4096+8:=i64_in _ (by omega);rw[wp];refine zb.mono (jK hi ((zH bs).2/4096+8) (by omega) (by omega)) ?_;rintro _ h3 ⟨rfl,rfl⟩;refine⟨_,rfl,fun _=>?_⟩;have eS:2^((zH bs).2/4096+8).toNat=zS (zH bs).2:=by unfold zS;rw[if_pos h7]
  rw[eS];exact Xf hi (fun _ _ e=>e) hx hle hx2 hc2 hL2 _ _ _ _ _
 ·intro _;have eS:(32768:Int)=((zS (zH bs).2:Nat):Int):=by unfold zS;rw[if_neg h7];rfl
  rw[eS];exact Xf hi (fun _ _ e=>e) hx hle hx2 hc2 hL2 _ _ _ _ _
end
end
end Go.Proofs.YtopmdepgpabipaaGreatDoor
section
namespace Go.Proofs
abbrev Tryz.link:Go.Conc.Lib.WgLink:={ add:=102,done:=104,wait:=105,relMerge:=110,disable:=111,enable:=112,inBubble:=113,associate:=114,fatal:=115,uOr:=116,uAdd:=117,raceRead:=118,uLoad:=119,uStore:=120,disassociate:=121,semrelease:=122,acquire:=123,isAssociated:=124,uCas:=125,raceWrite:=126,semacquire:=127,orU64:=128,addU64:=129,loadU64:=130,storeU64:=131,casU64:=132,tWgP:=188,tUP:=112,tAssoc:=190,tWg:=182,tAU:=180,tU64:=97,tUint:=100,tU32:=70,tPU32:=194,tPAU:=202,tPU64:=204,tNoCopy:=176,tANoCopy:=177,tAlign64:=178 }
theorem Tryz.KU:Go.Conc.Lib.WgLib Tryz.prog Tryz.link:=
 ⟨Tryz.func102,Tryz.func104,Tryz.func105,Tryz.func110,Tryz.func111,Tryz.func112,Tryz.func113,Tryz.func114,Tryz.func115,Tryz.func116,Tryz.func117,Tryz.func118,Tryz.func119,Tryz.func120,Tryz.func121,Tryz.func122,Tryz.func123,Tryz.func124,Tryz.func125,Tryz.func126,Tryz.func127,Tryz.func128,Tryz.func129,Tryz.func130,Tryz.func131,Tryz.func132,Tryz.underlying188,Tryz.runUnderlying188,Tryz.sizeOf188,Tryz.isAgg188,Tryz.zeroValue188,Tryz.underlying112,Tryz.runUnderlying112,Tryz.sizeOf112,Tryz.isAgg112,Tryz.zeroValue112,Tryz.underlying190,Tryz.runUnderlying190,Tryz.sizeOf190,Tryz.isAgg190,Tryz.zeroValue190,Tryz.underlying182,Tryz.runUnderlying182,Tryz.sizeOf182,Tryz.isAgg182,Tryz.zeroValue182,Tryz.underlying180,Tryz.runUnderlying180,Tryz.sizeOf180,Tryz.isAgg180,Tryz.zeroValue180,Tryz.underlying97,Tryz.runUnderlying97,Tryz.sizeOf97,Tryz.isAgg97,Tryz.zeroValue97,Tryz.underlying100,Tryz.runUnderlying100,Tryz.sizeOf100,Tryz.isAgg100,Tryz.zeroValue100,Tryz.underlying70,Tryz.runUnderlying70,Tryz.sizeOf70,Tryz.isAgg70,Tryz.zeroValue70,Tryz.underlying194,Tryz.runUnderlying194,Tryz.sizeOf194,Tryz.isAgg194,Tryz.zeroValue194,Tryz.underlying202,Tryz.runUnderlying202,Tryz.sizeOf202,Tryz.isAgg202,Tryz.zeroValue202,Tryz.underlying204,Tryz.runUnderlying204,Tryz.sizeOf204,Tryz.isAgg204,Tryz.zeroValue204,Tryz.underlying0,Tryz.runUnderlying0,Tryz.sizeOf0,Tryz.isAgg0,Tryz.zeroValue0,Tryz.underlying3,Tryz.runUnderlying3,Tryz.sizeOf3,Tryz.isAgg3,Tryz.zeroValue3,Tryz.underlying4,Tryz.runUnderlying4,Tryz.sizeOf4,Tryz.isAgg4,Tryz.zeroValue4,Tryz.underlying9,Tryz.runUnderlying9,Tryz.sizeOf9,Tryz.isAgg9,Tryz.zeroValue9,Tryz.underlying20,Tryz.runUnderlying20,Tryz.sizeOf20,Tryz.isAgg20,Tryz.zeroValue20,Tryz.underlying21,Tryz.runUnderlying21,Tryz.sizeOf21,Tryz.isAgg21,Tryz.zeroValue21,(by kernel_rfl),(by kernel_rfl)⟩
end Go.Proofs
end
