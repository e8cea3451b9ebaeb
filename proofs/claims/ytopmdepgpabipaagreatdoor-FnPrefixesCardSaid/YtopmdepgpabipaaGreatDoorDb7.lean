import Derived.IntWalk
import Derived.Test.YtopmdepgpabipaaGreatDoorChecked
import Derived.KernelRfl
import Derived.OpenVars
import Derived.LaidLaws
import Derived.LaidHandle
import Derived.ChangeVars
import Derived.OpenShut
import Derived.Test.YtopmdepgpabipaaGreatDoorDb2
import Derived.Test.YtopmdepgpabipaaGreatDoorDb3
import Derived.Test.YtopmdepgpabipaaGreatDoorDb4
import Derived.Test.YtopmdepgpabipaaGreatDoorDb5
import Derived.Test.YtopmdepgpabipaaGreatDoorDb6
set_option maxRecDepth 100000
set_option maxHeartbeats 8000000
set_option linter.unusedVariables false
set_option linter.unusedSimpArgs false
set_option linter.unusedSectionVars false
namespace Go.Proofs.YtopmdepgpabipaaGreatDoor
open Go Go.Eng Go.IntWalk
section
variable {h:qaA}{S:Shared}
section
theorem QR(hi:qaC S h)(a:Option Addr)(c:Nat)(xs:List Int)(i:Nat)(hx:zo h .u8 a xs)(hl:xs.length<=1048576)(hlt:i/8<xs.length) :
  zb oPP S AP #[.slice a xs.length c,.int .i64 i] h (fun v h'=>v=.int .u64 (xu xs i)/\h'=h):=by
 refine LM (vs:=[.slice a xs.length c,.int .i64 i]) ⟨rfl,rfl,trivial⟩ hi ?_;simp only[GQ,Tr.wp,Ex.ev,coerce,toInt_int,za,zc,ze,zd,zf,zM,z9,arith,Cst.val,SV.den,zy,zq,vA,vB,decide_eq_true_eq,vI,vH,and_true];have w1:IntKind.i64.wrap ((i:Int).tdiv 8)=((i/8:Nat):Int):=by rw[Int.tdiv_eq_ediv_of_nonneg (by omega)];exact i64_in _ (by omega)
 have w2:(i:Int).tmod 8=((i%8:Nat):Int):=by rw[Int.tmod_eq_emod_of_nonneg (by omega)];omega
 have w3:IntKind.u64.wrap ((i%8:Nat):Int)=((i%8:Nat):Int):=u64_in _ (by omega);rw[w1,w2,w3];obtain⟨g1,g2⟩:=hx.cell (List.getElem?_eq_getElem hlt);refine⟨by simpa using g2,by omega,by omega,xs[i/8],by simp only[Int.toNat_natCast,Nat.mul_one,add_add,Nat.add_zero];exact g1,by simp;omega,?_⟩;have e:min ((i%8:Nat):Int).toNat IntKind.u8.bits=i%8:=by
  have:IntKind.u8.bits=8:=rfl;rw[this];omega
 rw[e];congr 1;have e2:xs.getD (i/8) 0=xs[i/8]:=by simp[List.getD,List.getElem?_eq_getElem hlt]
 rw[xu,e2,IntKind.wrap_u64,Int.tmod_eq_emod_of_nonneg (by omega)];omega
end
variable {i:Nat}{xs:List Int}{x:Int}
section
theorem VG(h:i<=62):((2^i:Nat):Int)<=4611686018427387904:=by
 have:2^i<=2^62:=Nat.pow_le_pow_right (by omega) h;have e:(2:Nat)^62=4611686018427387904:=by decide
 omega
theorem OT(i:Nat):0<=((2^i:Nat):Int):=Int.natCast_nonneg _
theorem jK(hi:qaC S h)(n:Int)(hn0:0<=n)(hn:n<=62) :
  zb oPP S yD #[.int .i64 n] h (fun v h'=>v=.int .i64 ((2^n.toNat:Nat):Int)/\h'=h):=by
 refine LO (vs:=[.int .i64 n]) ⟨rfl,trivial⟩ hi ?_;simp only[GS,Tr.wp,Ex.ev,coerce,toInt_int,za,z9,arith,Cst.val,SV.den,zV,vA,vB,vC,decide_eq_true_eq,decide_eq_false_iff_not,vD,vE,vI,vH];refine⟨fun us h'=>∃i:Nat,us=[.int .i64 ((2^i:Nat):Int),.int .i64 i]/\(i:Int)<=n/\h'=h,fun us _=>n.toNat-(toInt (us.getD 1 undef)).toNat,⟨0,rfl,hn0,rfl⟩,?_⟩;rintro x y h' ⟨i,hx,hi2,rfl⟩;obtain⟨rfl,rfl⟩:x=((2^i:Nat):Int)/\y=i:=by simpa using hx
 simp only[toInt_int,vA,vB,and_true];refine⟨fun hlt=>?_,fun hge=>?_⟩
 ·have p1:=VG (i:=i+1) (by omega);have p0:=OT (i+1);have e1:2*((2^i:Nat):Int)=((2^(i+1):Nat):Int):=by rw[Nat.pow_succ];omega
  have w1:IntKind.i64.wrap (2*((2^i:Nat):Int))=((2^(i+1):Nat):Int):=by rw[e1];exact i64_in _ (by omega)
  have w2:IntKind.i64.wrap ((i:Int)+1)=((i+1:Nat):Int):=zr;rw[w1,w2];refine⟨⟨i+1,rfl,by omega⟩,by omega⟩
 ·obtain rfl:n=i:=by omega
  simp
def xv(x:Int):Int:=if 0<x then((2^(15-x).toNat:Nat):Int)else 0
def kr(xs:List Int):Int:=(xs.map xv).sum
def cn(xs:List Int):Int:=(xs.map fun x=>if 0<x then 1 else 0).sum
def hok(xs:List Int):Prop:=∀x∈xs,0<=x/\x<=15
instance (xs:List Int):Decidable (hok xs):=by unfold hok;infer_instance
def zt(xs:List Int):Int:=
 if xs.length>320 then 0 else if ¬hok xs then 0 else if cn xs=0 then 5 else if kr xs>32768 then 2 else if kr xs=32768 then 1 else if cn xs=1/\kr xs=16384 then 4 else 3
theorem At(x:Int)(h:0<=x):0<=xv x/\xv x<=32768:=by
 unfold xv;split
 ·have h1:2^(15-x).toNat<=2^15:=Nat.pow_le_pow_right (by omega) (by omega);have e:(2:Nat)^15=32768:=by decide
  have h2:=OT (15-x).toNat;exact⟨h2,by rw[e]at h1;exact Int.ofNat_le.2 h1⟩
 ·omega
theorem Sj:∀(xs:List Int),hok xs->0<=kr xs/\kr xs<=32768*xs.length
 | [],_=>by simp[kr]
 | x::r,h=>by
  have h1:=At x (h x (by simp)).1;have h2:=Sj r fun y hy=>h y (by simp[hy])
  simp only[kr,vD,List.sum_cons,List.length_cons]at h2 ⊢;omega
theorem Kz:∀(xs:List Int),0<=cn xs/\cn xs<=xs.length
 | []=>by simp[cn]
 | x::r=>by
  have h2:=Kz r;simp only[cn,vD,List.sum_cons,List.length_cons]at h2 ⊢;split <;> omega
theorem Hj(hi:i<xs.length):xs.take (i+1)=xs.take i++[xs[i]]:=by
 rw[List.take_add_one,List.getElem?_eq_getElem hi];rfl
theorem B7(hi:i<xs.length):kr (xs.take (i+1))=kr (xs.take i)+xv xs[i]:=by
 unfold kr;rw[Hj hi,List.map_append,List.sum_append];simp
theorem CM(hi:i<xs.length):cn (xs.take (i+1))=cn (xs.take i)+(if 0<xs[i]then 1 else 0):=by
 unfold cn;rw[Hj hi,List.map_append,List.sum_append];simp
theorem Jk(hi:i<xs.length)(h:hok (xs.take i))(hx:0<=xs[i]/\xs[i]<=15):hok (xs.take (i+1)):=by
 rw[Hj hi];intro x hm;rcases List.mem_append.1 hm with h1 | h1
 ·exact h x h1
 ·simp at h1;subst h1;exact hx
theorem LX(hi:i<xs.length)(hx:¬(0<=xs[i]/\xs[i]<=15)):¬hok xs:=fun h=>hx (h _ (List.getElem_mem hi))
theorem Ib:∀ {xs:List Int},cn xs=0->kr xs=0
 | [],_=>rfl
 | x::r,h=>by
  have h2:=Kz r;simp only[cn,vD,List.sum_cons]at h h2;split at h
  ·omega
  ·rename_i hx;have ih:kr r=0:=Ib (by simp only[cn];omega);simp only[kr,vD,List.sum_cons]at ih ⊢;rw[ih];simp[xv,hx]
theorem VH(h0:x>0)(h1:x<=15):IntKind.i64.wrap (1*2^min (15-x).toNat IntKind.i64.bits)=xv x:=by
 have e:min (15-x).toNat IntKind.i64.bits=(15-x).toNat:=Nat.min_eq_left (by show _<=64;omega);have hk:=At x (by omega);have e2:(1:Int)*2^(15-x).toNat=xv x:=by simp[xv,h0]
 rw[e,e2];exact i64_in _ (by omega)
theorem TJ(h0:1<=x)(h1:x<=15):xv x=16384<->x=1:=by
 have:x=1\/x=2\/x=3\/x=4\/x=5\/x=6\/x=7\/x=8\/x=9\/x=10\/x=11\/x=12\/x=13\/x=14\/x=15:=by omega
 rcases this with rfl | rfl | rfl | rfl | rfl | rfl | rfl | rfl | rfl | rfl | rfl | rfl | rfl | rfl | rfl <;> decide
theorem qL(hi:qaC S h)(a:Option Addr)(c:Nat)(xs:List Int)(hx:zo h .i64 a xs) :
  zb oPP S jm #[.slice a xs.length c] h (fun v h'=>v=.int .i64 (zt xs)/\h'=h):=by
 refine Iw (vs:=[.slice a xs.length c]) ⟨rfl,trivial⟩ hi ?_;simp only[DR,Tr.wp,Ex.ev,coerce,toInt_int,za,zc,ze,zd,zf,zM,xg,jA,z9,arith,Cst.val,SV.den,zy,zV,zq,vA,vB,vC,List.getElem?_cons_succ,decide_eq_true_eq,decide_eq_false_iff_not,vD,vE,vI,vH,and_true];refine⟨fun hbig=>?_,fun hsm=>?_⟩
 ·have:xs.length>320:=by omega
  simp[zt,this]
 have hlen:xs.length<=320:=by omega
 refine⟨fun us h'=>∃(i:Nat) (l:Int),us=[.int .i64 (kr (xs.take i)),.int .i64 (cn (xs.take i)),.int .i64 l,.int .i64 i]/\i<=xs.length/\h'=h/\hok (xs.take i)/\(cn (xs.take i)=1->1<=l/\l<=15/\kr (xs.take i)=xv l),
  fun us _=>xs.length-(toInt (us.getD 3 undef)).toNat,⟨0,0,rfl,by omega,rfl,by simp[hok],by simp[cn]⟩,?_⟩
 rintro x y z u h' ⟨i,l,hx1,hi2,rfl,hk,hone⟩;obtain⟨rfl,rfl,rfl,rfl⟩:x=kr (xs.take i)/\y=cn (xs.take i)/\z=l/\u=i:=by simpa using hx1
 simp only[toInt_int,vA,vB,and_true,true_and];have b1:=Sj _ hk;have b2:=Kz (xs.take i);have b3:(xs.take i).length<=320:=by rw[List.length_take];omega
 refine⟨fun hlt=>?_,fun hge=>?_⟩
 ·have hi3:i<xs.length:=by omega
  obtain⟨g1,g2⟩:=hx.cell (List.getElem?_eq_getElem hi3);refine⟨by simpa using g2,by omega,by omega,xs[i],by simpa[add_add]using g1,fun hbad=>?_,fun hgood=>?_⟩
  ·have:¬hok xs:=LX hi3 (by simp at hbad;omega);simp[zt,this]
  ·have hr:0<=xs[i]/\xs[i]<=15:=by simp at hgood;omega
   have w2:IntKind.i64.wrap ((i:Int)+1)=((i+1:Nat):Int):=zr;have w4:IntKind.i64.wrap (15-xs[i])=15-xs[i]:=i64_in _ (by omega);have hk2:=Jk hi3 hk hr;have kt:=At xs[i] hr.1;rw[w2,w4];refine⟨fun hpos=>⟨by omega,fun _=>⟨⟨i+1,xs[i],?_,by omega,hk2,fun h1=>?_⟩,by omega⟩⟩,fun hneg _=>⟨⟨i+1,z,?_,by omega,hk2,fun h1=>?_⟩,by omega⟩⟩
   ·rw[VH hpos hr.2,B7 hi3,CM hi3,if_pos (by omega),i64_in (kr _+_) (by omega),i64_in (cn _+1) (by omega)]
   ·rw[CM hi3,if_pos (by omega)]at h1;rw[B7 hi3,Ib (show cn (xs.take i)=0 by omega)];omega
   ·rw[B7 hi3,CM hi3,if_neg hneg,show xv xs[i]=0 from if_neg hneg,Int.add_zero,Int.add_zero]
   ·rw[CM hi3,if_neg hneg,Int.add_zero]at h1;rw[B7 hi3,show xv xs[i]=0 from if_neg hneg,Int.add_zero];exact hone h1
 ·obtain rfl:i=xs.length:=by omega
  rw[List.take_length]at *;have hl:¬xs.length>320:=by omega
  by_cases h1:cn xs=0
  ·simp[zt,hl,hk,h1]
  by_cases h2:kr xs>32768
  ·simp[zt,hl,hk,h1,h2]
  by_cases h3:kr xs=32768
  ·simp[zt,hl,hk,h1,h3]
  by_cases h4:cn xs=1
  ·obtain⟨o1,o2,o3⟩:=hone h4;have o4:=TJ o1 o2;rw[<-o3]at o4;by_cases h5:z=1
   ·simp[zt,hl,hk,h4,h5,o4.2 h5]
   ·have:¬kr xs=16384:=fun e=>h5 (o4.1 e)
    simp[zt,hl,hk,h2,h3,h4,h5,this]
  ·simp[zt,hl,hk,h1,h2,h3,h4]
theorem AZ(hi:qaC S h)(a:Option Addr)(c:Nat)(xs:List Int)(hx:zo h .i64 a xs) :
  zb oPP S ki #[.slice a xs.length c] h (fun v h'=>v=.int .i64 (zt xs)/\h'=h):=by
 refine Iv (vs:=[.slice a xs.length c]) ⟨rfl,trivial⟩ hi ?_;simp only[DQ,Tr.wp,z4,Ex.ev,coerce,toInt_int,za,zc,ze,zd,zf,zM,z9,arith,Cst.val,SV.den,zn,zL,zz,zk,zi,zy,zV,zq,vF,vG,vA,vB,vC,List.getElem?_cons_succ,decide_eq_true_eq,decide_eq_false_iff_not,vD,vE,vI,vH,vJ,and_true,if_false,vK];refine⟨fun hbig=>?_,fun hsm=>?_⟩
 ·have:xs.length>320:=by omega
  simp[zt,this]
 have hlen:xs.length<=320:=by omega
 refine⟨fun us h'=>∃(i:Nat),us=[.int .i64 (kr (xs.take i)),.int .i64 (cn (xs.take i)),.int .i64 i]/\i<=xs.length/\h'=h/\hok (xs.take i),
  fun us _=>xs.length-(toInt (us.getD 2 undef)).toNat,⟨0,rfl,by omega,rfl,by simp[hok]⟩,?_⟩
 rintro x y u h' ⟨i,hx1,hi2,rfl,hk⟩;obtain⟨rfl,rfl,rfl⟩:x=kr (xs.take i)/\y=cn (xs.take i)/\u=i:=by simpa using hx1
 simp only[toInt_int,vA,vB,and_true,true_and];have b1:=Sj _ hk;have b2:=Kz (xs.take i);have b3:(xs.take i).length<=320:=by rw[List.length_take];omega
 refine⟨fun hlt=>?_,fun hge=>?_⟩
 ·have hi3:i<xs.length:=by omega
  obtain⟨g1,g2⟩:=hx.cell (List.getElem?_eq_getElem hi3);have hnn:(!a.isNone)=true:=by simpa using g2
  have g3:zj h' (((a.getD default).add ((i:Int).toNat*1)).add 0)=some (Value.int IntKind.i64 xs[i]):=by simpa[add_add]using g1
  have w2:IntKind.i64.wrap ((i:Int)+1)=((i+1:Nat):Int):=zr;rw[w2];refine⟨hnn,by omega,hlt,xs[i],g3,fun hpos=>⟨hnn,by omega,hlt,xs[i],g3,fun _=>⟨fun hbig=>?_,fun hsm2=>⟨hnn,by omega,hlt,xs[i],g3,fun hp=>⟨hnn,by omega,hlt,xs[i],g3,?_⟩,fun hz _=>⟨⟨i+1,?_,by omega,?_⟩,by omega⟩⟩⟩⟩,fun hneg _=>⟨fun _=>?_,fun h=>by cases h⟩⟩
  ·have:¬hok xs:=LX hi3 (by omega);simp[zt,this]
  ·have w4:IntKind.i64.wrap (15-xs[i])=15-xs[i]:=i64_in _ (by omega);rw[w4];refine(jK hi (15-xs[i]) (by omega) (by omega)).mono ?_;rintro _ _ ⟨rfl,rfl⟩;have kt:=At xs[i] (by omega);have ke:((2^(15-xs[i]).toNat:Nat):Int)=xv xs[i]:=(if_pos hp).symm;refine⟨_,rfl,fun _=>⟨⟨i+1,?_,by omega,rfl,Jk hi3 hk ⟨by omega,by omega⟩⟩,by omega⟩⟩;rw[ke,B7 hi3,CM hi3,if_pos (by omega),i64_in (kr _+_) (by omega),i64_in (cn _+1) (by omega)]
  ·rw[B7 hi3,CM hi3,if_neg hz,show xv xs[i]=0 from if_neg hz,Int.add_zero,Int.add_zero]
  ·exact Jk hi3 hk ⟨by simp at hpos;omega,by omega⟩
  ·have:¬hok xs:=LX hi3 (by simp at hneg;omega);simp[zt,this]
 ·obtain rfl:i=xs.length:=by omega
  rw[List.take_length]at *;have hl:¬xs.length>320:=by omega
  have p15:((2^(15:Int).toNat:Nat):Int)=32768:=by decide
  have p14:((2^(14:Int).toNat:Nat):Int)=16384:=by decide
  refine⟨fun h1=>?_,fun h1=>?_⟩
  ·have h1:cn xs=0:=by simpa using h1
   simp[zt,hl,hk,h1]
  have h1:¬cn xs=0:=by simpa using h1
  refine(jK hi 15 (by omega) (by omega)).mono ?_;rintro _ _ ⟨rfl,rfl⟩;rw[p15];refine⟨_,rfl,fun h2=>?_,fun h2=>?_⟩
  ·simp[zt,hl,hk,h1,h2]
  refine(jK hi 15 (by omega) (by omega)).mono ?_;rintro _ _ ⟨rfl,rfl⟩;rw[p15];refine⟨_,rfl,fun h3=>?_,fun h3=>⟨fun h4=>?_,fun h4 _=>⟨fun h=>h.elim,fun _=>?_⟩⟩⟩
  ·have h3:kr xs=32768:=by simpa using h3
   simp[zt,hl,hk,h1,h3]
  ·have h3:¬kr xs=32768:=by simpa using h3
   have h4:cn xs=1:=by simpa using h4
   refine(jK hi 14 (by omega) (by omega)).mono ?_;rintro _ _ ⟨rfl,rfl⟩;rw[p14];refine⟨_,rfl,fun _=>⟨fun h5=>?_,fun h5=>?_⟩⟩
   ·have h5:kr xs=16384:=by simpa using h5
    simp[zt,hl,hk,h4,h5]
   ·have h5:¬kr xs=16384:=by simpa using h5
    simp[zt,hl,hk,h2,h3,h4,h5]
  ·have h3:¬kr xs=32768:=by simpa using h3
   have h4:¬cn xs=1:=by simpa using h4
   simp[zt,hl,hk,h1,h2,h3,h4]
end
variable {v:Value}
section
variable {w : Value}
abbrev tI:Ty Value (List Int):=YX .i64
def Hk(xs:List Int):Prop:=xs.length<=1048576
end
section
variable {w : Value}{ps:List (Int × Int)}
abbrev Cc:Ty Value (List (Int×Int)):=zag
theorem VI(H:Cc.R h v ps):∃a c,v=.slice a ps.length c:=by obtain⟨a,c,rfl,_⟩:=H;exact⟨a,c,rfl⟩
end
variable {m n:Nat}
section
def tl(x:Int):Nat->Int
 | 0=>0
 | i+1=>2*tl x i+(x/2^i)%2
theorem Sk:0<=tl x n/\tl x n<2^n:=by
 induction n with
 | zero=>simp[tl]
 | succ n ih=>
  rw[tl,show(2:Int)^(n+1)=2*2^n by rw[Int.pow_succ];omega];omega
theorem Ic(h:n<=m):(2:Int)^n<=2^m:=by
 rw[yC,yC];exact_mod_cast Nat.pow_le_pow_right (by decide) h
theorem Hl(x:Int)(i:Nat):x/2^i/2=x/2^(i+1):=by
 rw[Int.pow_succ,Int.ediv_ediv_of_nonneg (Int.le_of_lt (Int.pow_pos (by decide)))]
theorem VJ(hi:qaC S h)(x:Int)(n:Nat)(h0:0<=x)(h1:x<=1099511627776)(hn:n<=32) :
  zb oPP S Cq #[.int .i64 x,.int .i64 n] h (fun v h'=>v=.int .u64 (tl x n)/\h'=h):=by
 refine Ke (vs:=[.int .i64 x,.int .i64 n]) ⟨rfl,rfl,trivial⟩ hi ?_;simp only[Gd,Tr.wp,Ex.ev,coerce,toInt_int,za,z9,arith,Cst.val,SV.den,zV,vA,vB,vC,decide_eq_true_eq,decide_eq_false_iff_not,vD,vE,vI,vH];refine⟨fun us h'=>∃i:Nat,us=[.int .i64 (x/2^i),.int .u64 (tl x i),.int .i64 i]/\i<=n/\h'=h,fun us _=>n-(toInt (us.getD 2 undef)).toNat,⟨0,by simp[tl],by omega,rfl⟩,?_⟩;rintro a b c h' ⟨i,hx1,hi2,rfl⟩;obtain⟨rfl,rfl,rfl⟩:a=x/2^i/\b=tl x i/\c=i:=by simpa using hx1
 refine⟨fun hlt=>?_,fun hge=>?_⟩
 ·have hp:(0:Int)<2^i:=Int.pow_pos (by decide);have hx0:0<=x/2^i:=Int.ediv_nonneg h0 (Int.le_of_lt hp);have hxl:x/2^i<=x:=Int.ediv_le_self _ h0;have ht:=Sk (x:=x) (n:=i);have hp32:(2:Int)^i<=2^32:=Ic (by omega);have e32:(2:Int)^32=4294967296:=by decide
  have w1:IntKind.i64.wrap ((x/2^i).tdiv 2)=x/2^(i+1):=by
   rw[i64_quo _ _ ⟨hx0,by omega,by omega⟩,Hl]
  have w2:IntKind.u64.wrap (IntKind.u64.wrap (2*tl x i)+IntKind.u64.wrap ((x/2^i).tmod 2))=tl x (i+1):=by
   rw[Int.tmod_eq_emod_of_nonneg hx0,u64_in (2*tl x i) (by omega),u64_in (x/2^i%2) (by omega),u64_in _ (by omega)];rfl
  have w3:IntKind.i64.wrap ((i:Int)+1)=((i+1:Nat):Int):=zr;rw[w1,w2,w3];exact⟨⟨i+1,rfl,by omega,rfl⟩,by simp only[vB,vA,toInt_int];omega⟩
 ·obtain rfl:i=n:=by omega
  exact⟨rfl,rfl⟩
theorem VK (hi : qaC S h) (x : Int) (n : Nat) (h0 : 0 <= x) (h1 : x <= 1099511627776) (hn : n <= 32) :
    zb oPP S Cs #[.int .u64 x, .int .i64 n] h (fun v h' => v = .int .u64 (tl x n) /\ h' = h) := by
  refine Kf (vs := [.int .u64 x, .int .i64 n]) ⟨rfl, rfl, trivial⟩ hi ?_;simp only [Ge, Tr.wp, Ex.ev, coerce, toInt_int, za, z9, arith, Cst.val, SV.den, zV, vA, vB, vC, decide_eq_true_eq, decide_eq_false_iff_not, vD, vE, vI, vH];refine ⟨fun us h' => ∃ i : Nat, us = [.int .u64 (tl x i * 2 ^ (n - i)), .int .i64 i] /\ i <= n /\ h' = h, fun us _ => n - (toInt (us.getD 1 undef)).toNat, ⟨0, by simp [tl], by omega, rfl⟩, ?_⟩;rintro b c h' ⟨i, hx1, hi2, rfl⟩;obtain ⟨rfl, rfl⟩ : b = tl x i * 2 ^ (n - i) /\ c = i := by simpa using hx1
  refine ⟨fun hlt => ?_, fun hge => ?_⟩
  · obtain ⟨k, hk⟩ : ∃ k, n - i = k + 1 := ⟨n - i - 1, by omega⟩
    have hp : (0 : Int) < 2 ^ i := Int.pow_pos (by decide);have hpk : (0 : Int) < 2 ^ k := Int.pow_pos (by decide);have hx0 : 0 <= x / 2 ^ i := Int.ediv_nonneg h0 (Int.le_of_lt hp);have ht := Sk (x := x) (n := i);have hb : 0 <= x / 2 ^ i % 2 /\ x / 2 ^ i % 2 <= 1 := by omega
    have m1 : min (i : Int).toNat IntKind.u64.bits = i := by
      have : IntKind.u64.bits = 64 := rfl;rw [this]; omega
    have w1 : IntKind.i64.wrap (IntKind.i64.wrap ((n : Int) - 1) - (i : Int)) = (k : Int) := by
      rw [i64_in ((n : Int) - 1) (by omega), i64_in _ (by omega)]; omega
    have m2 : min ((k : Int)).toNat IntKind.u64.bits = k := by
      have : IntKind.u64.bits = 64 := rfl;rw [this]; omega
    have e1 : Go.bits .and .u64 (x.fdiv (2 ^ i)) 1 = x / 2 ^ i % 2 := by
      rw [OK, Int.fdiv_eq_ediv_of_nonneg _ (Int.le_of_lt hp)]
    have hp32 : (2 : Int) ^ k <= 2 ^ 32 := Ic (by omega);have e32 : (2 : Int) ^ 32 = 4294967296 := by decide
    have hbk : 0 <= x / 2 ^ i % 2 * 2 ^ k /\ x / 2 ^ i % 2 * 2 ^ k <= 2 ^ k := by
      rcases (show x / 2 ^ i % 2 = 0 \/ x / 2 ^ i % 2 = 1 by omega) with h | h <;> rw [h] <;> omega
    have e2 : IntKind.u64.wrap (x / 2 ^ i % 2 * 2 ^ k) = x / 2 ^ i % 2 * 2 ^ k := u64_in _ (by omega);have w3 : IntKind.i64.wrap ((i : Int) + 1) = ((i + 1 : Nat) : Int) := zr;have e3 : Go.bits .or .u64 (tl x i * 2 ^ (n - i)) (x / 2 ^ i % 2 * 2 ^ k) = tl x (i + 1) * 2 ^ (n - (i + 1)) := by
      have hk2 : n - (i + 1) = k := by omega
      rw [hk, hk2];obtain ⟨t, ht2⟩ := Int.eq_ofNat_of_zero_le ht.1;obtain ⟨β, hβ⟩ := Int.eq_ofNat_of_zero_le hb.1;have hβ1 : β <= 1 := by omega
      rw [ht2] at ht;have htl : t < 2 ^ i := by have := ht.2; rw [yC] at this; exact_mod_cast this
      have hsum : i + (k + 1) <= 32 := by omega
      have hA : t * 2 ^ (k + 1) < 2 ^ 32 := by
        calc t * 2 ^ (k + 1) < 2 ^ i * 2 ^ (k + 1) := Nat.mul_lt_mul_of_pos_right htl (Nat.two_pow_pos _)
          _ = 2 ^ (i + (k + 1)) := (Nat.pow_add 2 i (k + 1)).symm
          _ <= 2 ^ 32 := Nat.pow_le_pow_right (by decide) hsum
      have hB : β * 2 ^ k < 2 ^ (k + 1) := by
        have : β * 2 ^ k <= 1 * 2 ^ k := Nat.mul_le_mul_right _ hβ1;have hpp := Nat.two_pow_pos k;rw [Nat.pow_succ]; omega
      have hB2 : 2 ^ (k + 1) <= 2 ^ 32 := Nat.pow_le_pow_right (by decide) (by omega);rw [tl, ht2, hβ, yC, yC];have c1 : ((t : Int) * ((2 ^ (k + 1) : Nat) : Int)) = ((t * 2 ^ (k + 1) : Nat) : Int) := by push_cast; rfl
      have c2 : ((β : Int) * ((2 ^ k : Nat) : Int)) = ((β * 2 ^ k : Nat) : Int) := by push_cast; rfl
      rw [c1, c2, Go.bits_or_u64_nat _ _ (by omega) (by omega)];have hor := Nat.two_pow_add_eq_or_of_lt hB t;rw [Nat.mul_comm t, <- hor];have : (2 * (t : Int) + β) * ((2 ^ k : Nat) : Int) = ((2 ^ (k + 1) * t + β * 2 ^ k : Nat) : Int) := by
        rw [Nat.pow_succ]; push_cast; rw [Int.add_mul, Int.mul_comm (2 : Int), Int.mul_assoc, Int.mul_comm (t : Int), Int.mul_comm (2 : Int)]
      rw [this]
    refine ⟨by omega, ?_⟩;rw [w1, m1, m2, e1, e2, w3, e3];exact ⟨by omega, ⟨i + 1, rfl, by omega, rfl⟩, by simp only [vB, vA, toInt_int]; omega⟩
  · obtain rfl : i = n := by omega
    rw [Nat.sub_self, Int.pow_zero, Int.mul_one];exact ⟨rfl, rfl⟩
end
variable {L c l s:Nat}{a:Option Addr}
section
def cst(xs:List Int):Nat->Int
 | 0=>0
 | l+1=>2*(cst xs l+(if l=0 then 0 else((xs.count (l:Int):Nat):Int)))
def qC(xs:List Int)(j:Nat):Int×Int:=(xs.getD j 0,tl (cst xs (xs.getD j 0).toNat+(((xs.take j).count (xs.getD j 0):Nat):Int)) (xs.getD j 0).toNat)
def yZ(xs:List Int):List (Int×Int):=(List.range xs.length).map fun j=>if 1<=xs.getD j 0 then qC xs j else(0,0)
def y8(xs:List Int):List (Int×Int):=if zt xs=0\/zt xs=2 then []else yZ xs
theorem we(h:¬(zt xs=0\/zt xs=2)):xs.length<=320/\hok xs:=by
 unfold zt at h;by_cases h1:xs.length>320
 ·simp[h1]at h
 ·by_cases h2:hok xs
  ·exact⟨by omega,h2⟩
  ·simp[h1,h2]at h
theorem Zb(hl:xs.length<=320)(l:Nat):0<=cst xs l/\cst xs l<=640*(2^l-1):=by
 induction l with
 | zero=>simp[cst]
 | succ l ih=>
  rw[cst,show(2:Int)^(l+1)=2*2^l by rw[Int.pow_succ];omega];have hc:(if l=0 then(0:Int)else((xs.count (l:Int):Nat):Int))<=320/\0<=(if l=0 then(0:Int)else((xs.count (l:Int):Nat):Int)):=by
   have:=List.count_le_length (a:=(l:Int)) (l:=xs);split <;> omega
  omega
theorem A7(hl:xs.length<=320)(h:l<=16):0<=cst xs l/\cst xs l<=41943040:=by
 have h1:=Zb hl l;have h2:(2:Int)^l<=2^16:=Ic h;have e:(2:Int)^16=65536:=by decide
 omega
theorem Ct{a:Int}(hl:xs.length<=320):(xs.take i).count a<=320:=by
 have:=List.count_le_length (a:=a) (l:=xs.take i);rw[List.length_take]at this;omega
theorem qi(hi:i<xs.length)(a:Int):(xs.take (i+1)).count a=(xs.take i).count a+(if xs[i]=a then 1 else 0):=by
 rw[List.take_add_one,List.getElem?_eq_getElem hi,List.count_append];simp only[Option.toList_some,List.count_cons,List.count_nil,beq_iff_eq,Nat.zero_add]
def Ba(xs:List Int)(i:Nat):List Int:=(List.range 17).map fun(l:Nat)=>if l=0 then 0 else(((xs.take i).count (l:Int):Nat):Int)
theorem Du:(Ba xs i).length=17:=by simp[Ba]
theorem Dv(h:l<17):(Ba xs i)[l]? = some (if l=0 then 0 else(((xs.take i).count (l:Int):Nat):Int)):=by simp[Ba,h]
theorem TK:Ba xs 0=List.replicate 17 0:=by
 apply List.ext_getElem?;intro l;by_cases h:l<17
 ·rw[Dv h,List.getElem?_replicate,if_pos h];simp
 ·rw[List.getElem?_eq_none (by rw[Du];omega),List.getElem?_eq_none (by simp;omega)]
theorem TL(hi:i<xs.length)(h0:xs[i]<=0):Ba xs (i+1)=Ba xs i:=by
 unfold Ba;apply List.map_congr_left;intro l hl;by_cases h:l=0
 ·simp[h]
 ·rw[if_neg h,if_neg h,qi hi,if_neg (show ¬xs[i]=(l:Int) by omega)];simp
theorem TM(hi:i<xs.length){x:Nat}(hx:xs[i]=(x:Int))(h0:1<=x)(h1:x<17):Ba xs (i+1)=(Ba xs i).set x ((((xs.take i).count (x:Int):Nat):Int)+1):=by
 apply List.ext_getElem?;intro l;rw[List.getElem?_set,Du];by_cases h:l<17
 ·rw[Dv h];by_cases he:x=l
  ·subst he;rw[if_pos rfl,if_pos h1,if_neg (by omega),qi hi,if_pos hx];push_cast;rfl
  ·rw[if_neg he,Dv h];by_cases hz:l=0
   ·simp[hz]
   ·rw[if_neg hz,if_neg hz,qi hi,if_neg (by omega)];simp
 ·rw[List.getElem?_eq_none (by rw[Du];omega),if_neg (by omega),List.getElem?_eq_none (by rw[Du];omega)]
def nxL(xs:List Int)(l:Nat):List Int:=(List.range 17).map fun j=>if j<l then cst xs j else 0
theorem Fb:(nxL xs i).length=17:=by simp[nxL]
theorem Ie(h:l<17):(nxL xs i)[l]? = some (if l<i then cst xs l else 0):=by simp[nxL,h]
theorem XH:nxL xs 1=List.replicate 17 0:=by
 apply List.ext_getElem?;intro l;by_cases h:l<17
 ·rw[Ie h,List.getElem?_replicate,if_pos h];by_cases h2:l<1
  ·have:l=0:=by omega
   subst this;simp[cst]
  ·rw[if_neg h2]
 ·rw[List.getElem?_eq_none (by rw[Fb];omega),List.getElem?_eq_none (by simp;omega)]
theorem VL(h1:l<17):nxL xs (l+1)=(nxL xs l).set l (cst xs l):=by
 apply List.ext_getElem?;intro j;rw[List.getElem?_set,Fb];by_cases h:j<17
 ·rw[Ie h];by_cases he:l=j
  ·subst he;rw[if_pos rfl,if_pos h1,if_pos (by omega)]
  ·rw[if_neg he,Ie h];by_cases hz:j<l
   ·rw[if_pos hz,if_pos (by omega)]
   ·rw[if_neg hz,if_neg (by omega)]
 ·rw[List.getElem?_eq_none (by rw[Fb];omega),if_neg (by omega),List.getElem?_eq_none (by rw[Fb];omega)]
def nxS(xs:List Int)(s:Nat):List Int:=(List.range 17).map fun j=>if j<16 then cst xs j+(if j=0 then 0 else(((xs.take s).count (j:Int):Nat):Int))else 0
theorem Ig:(nxS xs i).length=17:=by simp[nxS]
theorem QS(h:l<16)(h0:1<=l):(nxS xs i)[l]? = some (cst xs l+(((xs.take i).count (l:Int):Nat):Int)):=by
 have:l≠0:=by omega
 simp[nxS,h,this,show l<17 by omega]
theorem VM:nxL xs 16=nxS xs 0:=by
 unfold nxL nxS;apply List.map_congr_left;intro j hj;simp
theorem VN(hi:i<xs.length)(h0:xs[i]<=0):nxS xs (i+1)=nxS xs i:=by
 unfold nxS;apply List.map_congr_left;intro l hl;by_cases h:l=0
 ·simp[h]
 ·rw[qi hi,if_neg (show ¬xs[i]=(l:Int) by omega)];simp
theorem VO(hi:i<xs.length){x:Nat}(hx:xs[i]=(x:Int))(h0:1<=x)(h1:x<16):nxS xs (i+1)=(nxS xs i).set x (cst xs x+(((xs.take i).count (x:Int):Nat):Int)+1):=by
 apply List.ext_getElem?;intro l;rw[List.getElem?_set,Ig];by_cases h:l<17
 ·by_cases he:x=l
  ·subst he;rw[if_pos rfl,if_pos (by omega),QS h1 h0,qi hi,if_pos hx];push_cast;rw[Int.add_assoc]
  ·rw[if_neg he];simp only[nxS,List.getElem?_map,List.getElem?_range h,Option.map_some];by_cases hz:l=0
   ·simp[hz]
   ·have hc:(xs.take (i+1)).count (l:Int)=(xs.take i).count (l:Int):=by rw[qi hi,if_neg (show ¬xs[i]=(l:Int) by omega)];rfl
    simp only[hc]
 ·rw[List.getElem?_eq_none (by rw[Ig];omega),if_neg (by omega),List.getElem?_eq_none (by rw[Ig];omega)]
def Bb(xs:List Int)(s:Nat):List (Int×Int):=(List.range xs.length).map fun j=>if j<s/\1<=xs.getD j 0 then qC xs j else(0,0)
theorem Dw:(Bb xs s).length=xs.length:=by simp[Bb]
theorem TN:Bb xs 0=List.replicate xs.length (0,0):=by
 apply List.ext_getElem?;intro l;by_cases h:l<xs.length
 ·simp[Bb,h]
 ·rw[List.getElem?_eq_none (by rw[Dw];omega),List.getElem?_eq_none (by simp;omega)]
theorem TO:Bb xs xs.length=yZ xs:=by
 unfold Bb yZ;apply List.map_congr_left;intro j hj;have:j<xs.length:=by simpa using hj
 simp[this]
theorem qj(hi:i<xs.length):xs.getD i 0=xs[i]:=by simp[List.getD,List.getElem?_eq_getElem hi]
theorem TP(hi:i<xs.length)(h0:xs[i]<=0):Bb xs (i+1)=Bb xs i:=by
 unfold Bb;apply List.map_congr_left;intro j hj;by_cases h:j=i
 ·subst h;rw[qj hi,if_neg (by omega),if_neg (by omega)]
 ·have:(j<i+1/\1<=xs.getD j 0)<->(j<i/\1<=xs.getD j 0):=by omega
  simp only[this]
theorem TQ(hi:i<xs.length)(h0:1<=xs[i]):Bb xs (i+1)=(Bb xs i).set i (qC xs i):=by
 apply List.ext_getElem?;intro j;rw[List.getElem?_set,Dw];by_cases h:j<xs.length
 ·by_cases he:i=j
  ·subst he;rw[if_pos rfl,if_pos hi];simp only[Bb,List.getElem?_map,List.getElem?_range h,Option.map_some,qj h];rw[if_pos ⟨by omega,h0⟩]
  ·rw[if_neg he];simp only[Bb,List.getElem?_map,List.getElem?_range h,Option.map_some];have:(j<i+1/\1<=xs.getD j 0)<->(j<i/\1<=xs.getD j 0):=by omega
   simp only[this]
 ·rw[List.getElem?_eq_none (by rw[Dw];omega),if_neg (by omega),List.getElem?_eq_none (by rw[Dw];omega)]
def qF(xs:List Int)(L i:Nat):List (Int×Int):=(List.range xs.length).map fun j=>if(1<=xs.getD j 0/\xs.getD j 0<L)\/(xs.getD j 0=L/\j<i)then qC xs j else(0,0)
theorem Dx:(qF xs L i).length=xs.length:=by simp[qF]
theorem TR:qF xs 1 0=List.replicate xs.length (0,0):=by
 apply List.ext_getElem?;intro l;by_cases h:l<xs.length
 ·simp only[qF,List.getElem?_map,List.getElem?_range h,Option.map_some,List.getElem?_replicate,if_pos h];rw[if_neg (by omega)]
 ·rw[List.getElem?_eq_none (by rw[Dx];omega),List.getElem?_eq_none (by simp;omega)]
theorem TS(h:1<=L):qF xs L xs.length=qF xs (L+1) 0:=by
 unfold qF;apply List.map_congr_left;intro j hj;have:j<xs.length:=by simpa using hj
 have:((1<=xs.getD j 0/\xs.getD j 0<L)\/(xs.getD j 0=L/\j<xs.length))<->((1<=xs.getD j 0/\xs.getD j 0<((L+1:Nat):Int))\/(xs.getD j 0=((L+1:Nat):Int)/\j<0)):=by omega
 simp only[this]
theorem TU(hk:hok xs):qF xs 16 0=yZ xs:=by
 unfold qF yZ;apply List.map_congr_left;intro j hj;have hj:j<xs.length:=by simpa using hj
 have hb:=hk _ (List.getElem_mem hj);rw[qj hj];have:((1<=xs[j]/\xs[j]<((16:Nat):Int))\/(xs[j]=((16:Nat):Int)/\j<0))<->1<=xs[j]:=by omega
 simp only[this]
theorem TX(hi:i<xs.length)(h0:xs[i]≠(L:Int)):qF xs L (i+1)=qF xs L i:=by
 unfold qF;apply List.map_congr_left;intro j hj;by_cases h:j=i
 ·subst h;rw[qj hi];have:((1<=xs[j]/\xs[j]<(L:Int))\/(xs[j]=(L:Int)/\j<j+1))<->((1<=xs[j]/\xs[j]<(L:Int))\/(xs[j]=(L:Int)/\j<j)):=by omega
  simp only[this]
 ·have:((1<=xs.getD j 0/\xs.getD j 0<(L:Int))\/(xs.getD j 0=(L:Int)/\j<i+1))<->((1<=xs.getD j 0/\xs.getD j 0<(L:Int))\/(xs.getD j 0=(L:Int)/\j<i)):=by omega
  simp only[this]
theorem TZ(hi:i<xs.length)(h0:xs[i]=(L:Int)):qF xs L (i+1)=(qF xs L i).set i (qC xs i):=by
 apply List.ext_getElem?;intro j;rw[List.getElem?_set,Dx];by_cases h:j<xs.length
 ·by_cases he:i=j
  ·subst he;rw[if_pos rfl,if_pos hi];simp only[qF,List.getElem?_map,List.getElem?_range h,Option.map_some,qj h];rw[if_pos (.inr ⟨h0,by omega⟩)]
  ·rw[if_neg he];simp only[qF,List.getElem?_map,List.getElem?_range h,Option.map_some];have:((1<=xs.getD j 0/\xs.getD j 0<(L:Int))\/(xs.getD j 0=(L:Int)/\j<i+1))<->((1<=xs.getD j 0/\xs.getD j 0<(L:Int))\/(xs.getD j 0=(L:Int)/\j<i)):=by omega
   simp only[this]
 ·rw[List.getElem?_eq_none (by rw[Dx];omega),if_neg (by omega),List.getElem?_eq_none (by rw[Dx];omega)]
theorem QT{ps:List (Int×Int)}(H:xp h (.slice a l c) ps)(hs:∀b,zh (.slice a l c)=some b->¬S b)(hi:i<ps.length)(x y:Int) :
  xE S h (((a.getD default).add (i*2)).add 0)/\xE S (zQ h (((a.getD default).add (i*2)).add 0) (.int .i64 x)) (((a.getD default).add (i*2)).add (0+1)) /\
  xp (zQ (zQ h (((a.getD default).add (i*2)).add 0) (.int .i64 x)) (((a.getD default).add (i*2)).add (0+1)) (.int .u64 y)) (.slice a l c) (ps.set i (x,y)) /\
  ∀z,zh (.slice a l c)≠some z->zQ (zQ h (((a.getD default).add (i*2)).add 0) (.int .i64 x)) (((a.getD default).add (i*2)).add (0+1)) (.int .u64 y) z=h z:=by
 obtain⟨b,sp,T,e,hb⟩:=H;cases e
 have hsb:=hs b rfl;have e1:(((some (⟨b,0,none⟩:Addr)).getD default).add (i*2)).add 0=(⟨b,i*2,none⟩:Addr):=by
  rw[add_add,Option.getD_some,zu];simp
 have e2:(((some (⟨b,0,none⟩:Addr)).getD default).add (i*2)).add (0+1)=(⟨b,i*2+1,none⟩:Addr):=by
  rw[add_add,Option.getD_some,zu];simp
 have hlen:i<(ps++sp).length:=by simp;omega
 have hsz:(Eng.yP (ps++sp)).size=(ps++sp).length*2:=JW _;have ok:∀ {c:Array Value} {h1:qaA} {i:Nat},h1 b=some (.cells c T)->i<c.size->xE S h1 ⟨b,i,none⟩:=fun {c h1 i} hc hi2=>
  ⟨⟨c[i],by simp[zj,hc,hi2]⟩,by simp[yN,hc],hsb⟩
 rw[e1,e2,wH hb];refine⟨ok hb (by omega),ok upd_same (by rw[Array.size_setIfInBounds];omega),?_⟩;rw[wH upd_same,xw,ML _ _ hlen,List.set_append_left _ _ hi];exact⟨⟨b,sp,T,by simp,upd_same⟩,fun z hz=>upd_ne fun e=>hz (by rw[e];rfl)⟩
end
variable {b j k:Nat}{cs:List (Nat×Nat)}
section
def zl(xs:List Int):List (Nat×Nat):=(yZ xs).map fun p=>(p.1.toNat,p.2.toNat)
theorem kC:(yZ xs).length=xs.length:=by simp[yZ]
theorem xA:(zl xs).length=xs.length:=by simp[zl,yZ]
theorem E8(hj:j<xs.length):(yZ xs)[j]? = some (if 1<=xs[j]then qC xs j else(0,0)):=by
 simp only[yZ,List.getElem?_map,List.getElem?_range hj,Option.map_some,qj hj]
theorem MQ(hj:j<xs.length)(hl:xs[j]=(l:Int)):qC xs j=((l:Int),tl (cst xs l+(((xs.take j).count (l:Int):Nat):Int)) l):=by
 unfold qC;rw[qj hj,hl,Int.toNat_natCast]
theorem Bc(hok:hok xs){p:Int×Int}(h:(yZ xs)[j]? = some p):∃l b:Nat,p=((l:Int),(b:Int))/\(zl xs)[j]? = some (l,b)/\l<=15/\b<2^l:=by
 have hj:j<xs.length:=by have:=(List.getElem?_eq_some_iff.1 h).1;rwa[kC]at this
 have hc:(zl xs)[j]? = some (p.1.toNat,p.2.toNat):=by simp only[zl,List.getElem?_map,h,Option.map_some]
 rw[E8 hj]at h;have hb:=hok _ (List.getElem_mem hj);obtain⟨l,hl⟩:=Int.eq_ofNat_of_zero_le hb.1;by_cases h1:1<=xs[j]
 ·rw[if_pos h1,MQ hj hl]at h;have h:=(Option.some.inj h).symm;subst h;have ht:=Sk (x:=cst xs l+(((xs.take j).count (l:Int):Nat):Int)) (n:=l);obtain⟨b,hb2⟩:=Int.eq_ofNat_of_zero_le ht.1;refine⟨l,b,by rw[hb2],by rw[hc,hb2];rfl,by omega,?_⟩;have:=ht.2;rw[hb2,yC]at this;exact_mod_cast this
 ·rw[if_neg h1]at h;have h:=(Option.some.inj h).symm;subst h;exact⟨0,0,rfl,by rw[hc];rfl,by omega,by decide⟩
def Em(cs:List (Nat×Nat))(m l v:Nat):Prop:=∃s c,s<m/\cs[s]? = some c/\l<c.1/\c.2%2^l=v
def Ec(cs:List (Nat×Nat))(l v:Nat):Prop:=∃c∈cs,l<c.1/\c.2%2^l=v
instance (cs:List (Nat×Nat)) (l v:Nat):Decidable (Ec cs l v):=by unfold Ec;infer_instance
def Ym(cs:List (Nat×Nat)):Nat->Nat->Nat->Nat
 | 0,_,_=>0
 | m+1,l,v=>if cs[m]? = some (l,v)/\0<l then m+1 else Ym cs m l v
theorem LY{l v:Nat}:Em cs cs.length l v<->Ec cs l v:=by
 constructor
 ·rintro⟨s,c,_,h,h2⟩;exact⟨c,List.mem_of_getElem? h,h2⟩
 ·rintro⟨c,hc,h2⟩;obtain⟨s,hs⟩:=List.getElem?_of_mem hc;exact⟨s,c,(List.getElem?_eq_some_iff.1 hs).1,hs,h2⟩
theorem QU(h:l<=k):b%2^k%2^l=b%2^l:=Nat.mod_mod_of_dvd _ (Nat.pow_dvd_pow 2 h)
theorem zah{m l v:Nat}(h:Em cs m (l+1) v):Em cs m l (v%2^l):=by
 obtain⟨s,c,h1,h2,h3,h4⟩:=h;exact⟨s,c,h1,h2,by omega,by rw[<-h4,QU (by omega)]⟩
theorem Fc{l v:Nat}:∀ {m:Nat},Ym cs m l v≠0->∃s,s<m/\cs[s]? = some (l,v)/\0<l/\Ym cs m l v=s+1
 | 0,h=>absurd rfl h
 | m+1,h=>by
  rw[Ym]at h ⊢;by_cases h1:cs[m]? = some (l,v)/\0<l
  ·rw[if_pos h1];exact⟨m,by omega,h1.1,h1.2,rfl⟩
  ·rw[if_neg h1]at h ⊢;obtain⟨s,a,b,c,d⟩:=Fc h;exact⟨s,by omega,b,c,d⟩
theorem QV{l v:Nat}:∀ {m:Nat},(∀s,s<m->cs[s]? = some (l,v)->¬0<l)->Ym cs m l v=0
 | 0,_=>rfl
 | m+1,h=>by
  rw[Ym,if_neg (fun h1=>h m (by omega) h1.1 h1.2)];exact QV fun s hs=>h s (by omega)
theorem zai{m l v:Nat}(h:Ym cs m (l+1) v≠0):Em cs m l (v%2^l):=by
 obtain⟨s,a,b,_,_⟩:=Fc h;exact⟨s,_,a,b,Nat.lt_succ_self _,rfl⟩
def uniq(cs:List (Nat×Nat)):Prop:=∀s t l v:Nat,0<l->cs[s]? = some (l,v)->cs[t]? = some (l,v)->s=t
theorem zaj(U:uniq cs){s l v:Nat}(h:cs[s]? = some (l,v))(hl:0<l)(hm:s<m):Ym cs m l v=s+1:=by
 by_cases h0:Ym cs m l v=0
 ·exfalso;induction m with
  | zero=>omega
  | succ m ih=>
   rw[Ym]at h0;by_cases h1:cs[m]? = some (l,v)/\0<l
   ·rw[if_pos h1]at h0;omega
   ·rw[if_neg h1]at h0;by_cases h2:s=m
    ·subst h2;exact h1 ⟨h,hl⟩
    ·exact ih (by omega) h0
 ·obtain⟨t,_,b,_,d⟩:=Fc h0;rw[d,U s t l v hl h b]
def nxt(cs:List (Nat×Nat))(b:Nat):Nat->Nat->Int×Int×Int
 | 0,_=>(2,0,0)
 | f+1,l=>if Ym cs cs.length l (b%2^l)≠0 then(1,(Ym cs cs.length l (b%2^l):Int)-1,(l:Int))else if Ec cs l (b%2^l)then nxt cs b f (l+1)else(0,0,0)
def E9(l:Nat)(xs:List Int):Int:=(xs.map fun x=>if 0<x/\x<=(l:Int)then xv x else 0).sum
theorem VP(x:Int):0<=xv x:=by
 unfold xv;split
 ·exact Int.natCast_nonneg _
 ·omega
theorem QW(l:Nat):∀xs:List Int,E9 l xs<=kr xs
 | []=>by simp[E9,kr]
 | x::r=>by
  have:=QW l r;have h0:=VP x;unfold E9 kr at *;simp only[vD,List.sum_cons];split <;> omega
theorem MS:∀xs:List Int,E9 0 xs=0
 | []=>rfl
 | x::r=>by
  have:=MS r;unfold E9 at *;simp only[vD,List.sum_cons,this];rw[if_neg (by omega)];rfl
theorem Hm(l:Nat)(hl:l+1<=15):∀xs:List Int,E9 (l+1) xs=E9 l xs+((xs.count ((l+1:Nat):Int):Nat):Int)*2^(15-(l+1))
 | []=>by simp[E9]
 | x::r=>by
  have ih:=Hm l hl r;unfold E9 at *;simp only[vD,List.sum_cons,List.count_cons];by_cases h:x=((l+1:Nat):Int)
  ·have e1:(x==((l+1:Nat):Int))=true:=by simp[h]
   rw[e1,if_pos rfl,if_pos (show 0<x/\x<=((l+1:Nat):Int) by omega),if_neg (show ¬(0<x/\x<=(l:Int)) by omega),ih];have e2:xv x=2^(15-(l+1)):=by
    unfold xv;rw[if_pos (by omega),yC];congr 3;omega
   rw[e2];push_cast;rw[Int.add_mul];omega
  ·have e1:(x==((l+1:Nat):Int))=false:=beq_eq_false_iff_ne.2 h;rw[e1];have e3:(0<x/\x<=((l+1:Nat):Int))<->(0<x/\x<=(l:Int)):=by omega
   simp only[e3,vK,if_false,Nat.add_zero];rw[ih];omega
theorem OU{xs:List Int}:∀l:Nat,l+1<=15->cst xs (l+1)*2^(15-(l+1))=E9 l xs
 | 0,_=>by simp[cst,MS]
 | l+1,h=>by
  have ih:=OU (xs:=xs) l (by omega);rw[cst,Hm l (by omega),<-ih,if_neg (by omega)];have e:(2:Int)^(15-(l+1))=2*2^(15-(l+1+1)):=by
   rw[show 15-(l+1)=(15-(l+1+1))+1 by omega,Int.pow_succ];omega
  rw[e];generalize (2:Int)^(15-(l+1+1))=p;generalize cst xs (l+1)=c;generalize ((xs.count ((l+1:Nat):Int):Nat):Int)=k;rw[Int.mul_comm 2 (c+k),Int.mul_assoc,Int.add_mul]
theorem VQ(hk:kr xs<=32768)(h1:1<=l)(h2:l<=15):cst xs l+((xs.count (l:Int):Nat):Int)<=2^l:=by
 obtain⟨m,rfl⟩:∃m,l=m+1:=⟨l-1,by omega⟩;have a:=OU (xs:=xs) m h2;have b:=Hm m h2 xs;have c:=QW (m+1) xs;have hp:(0:Int)<2^(15-(m+1)):=Int.pow_pos (by decide);have e:(32768:Int)=2^(m+1)*2^(15-(m+1)):=by
  rw[<-Int.pow_add,show m+1+(15-(m+1))=15 by omega];rfl
 refine Int.le_of_mul_le_mul_right (a:=2^(15-(m+1))) ?_ hp;rw[Int.add_mul,a,<-b,<-e];omega
theorem Ua:∀ {n:Nat} {x y:Int},0<=x->0<=y->tl x n=tl y n->x%2^n=y%2^n
 | 0,x,y,_,_,_=>by simp
 | n+1,x,y,hx,hy,h=>by
  rw[tl,tl]at h;have hp:(0:Int)<2^n:=Int.pow_pos (by decide);have h2:x/2^n%2=y/2^n%2:=by omega
  have h1:tl x n=tl y n:=by omega
  have ih:=Ua hx hy h1;have key:∀z:Int,z%2^(n+1)=z%2^n+2^n*(z/2^n%2):=fun z=>by
   have hd:z/(2^n*2)=z/2^n/2:=(Int.ediv_ediv_of_nonneg (Int.le_of_lt hp)).symm;rw[Int.pow_succ,Int.emod_def z (2^n*2),hd,Int.emod_def z (2^n),Int.emod_def (z/2^n) 2,Int.mul_sub,Int.mul_assoc];omega
  rw[key x,key y,ih,h2]
theorem Cu(hj:j<xs.length){a:Int}(h:xs[j]=a):(xs.take j).count a<xs.count a:=by
 have e:xs=xs.take j++xs[j]::xs.drop (j+1):=by rw[<-List.drop_eq_getElem_cons hj,List.take_append_drop]
 conv=>rhs;rw[e]
 rw[List.count_append,List.count_cons,h];simp
theorem Eb(hij:i<j)(hi:i<xs.length){a:Int}(h:xs[i]=a):(xs.take i).count a<(xs.take j).count a:=by
 have hlt:i<(xs.take j).length:=by rw[List.length_take];omega
 have e2:(xs.take j).take i=xs.take i:=by rw[List.take_take];congr 1;omega
 have:=Cu (xs:=xs.take j) hlt (a:=a) (by rw[List.getElem_take];exact h);rwa[e2]at this
theorem zak(h:¬(zt xs=0\/zt xs=2)):kr xs<=32768:=by
 obtain⟨h1,h2⟩:=we h;unfold zt at h;by_cases h3:cn xs=0
 ·have:=Ib h3;omega
 ·by_cases h4:kr xs>32768
  ·have:¬xs.length>320:=by omega
   simp[this,h2,h3,h4]at h
  ·omega
theorem Sl(h:¬(zt xs=0\/zt xs=2)):uniq (zl xs):=by
 obtain⟨hlen,hok⟩:=we h;have hk:=zak h;intro s t l v hl hs ht;have key:∀ {j},(zl xs)[j]? = some (l,v)->∃hj:j<xs.length,xs[j]=(l:Int)/\(v:Int)=tl (cst xs l+(((xs.take j).count (l:Int):Nat):Int)) l:=fun {j} hj=>by
  have hj1:j<xs.length:=by have:=(List.getElem?_eq_some_iff.1 hj).1;rwa[xA]at this
  have hg:=E8 (xs:=xs) hj1;have hb:=hok _ (List.getElem_mem hj1);obtain⟨k,hk⟩:=Int.eq_ofNat_of_zero_le hb.1;obtain⟨l',b',e,hn,_,_⟩:=Bc hok hg;rw[hj]at hn;simp only[Option.some.injEq,Prod.mk.injEq]at hn;obtain⟨rfl,rfl⟩:=hn;by_cases h1:1<=xs[j]
  ·rw[if_pos h1,MQ hj1 hk]at e;simp only[Prod.mk.injEq]at e;have e1:k=l:=by exact_mod_cast e.1
   subst e1;exact⟨hj1,hk,e.2.symm⟩
  ·rw[if_neg h1]at e;simp only[Prod.mk.injEq]at e;have:l=0:=by exact_mod_cast e.1.symm
   omega
 obtain⟨hs1,hs2,hs3⟩:=key hs;obtain⟨ht1,ht2,ht3⟩:=key ht;have hl15:l<=15:=by have:=hok _ (List.getElem_mem hs1);omega
 have room:=VQ hk hl hl15;have c0:=A7 (xs:=xs) hlen (l:=l) (by omega);have cs:=Cu hs1 hs2;have ct:=Cu ht1 ht2;have inj:=Ua (n:=l) (x:=cst xs l+(((xs.take s).count (l:Int):Nat):Int)) (y:=cst xs l+(((xs.take t).count (l:Int):Nat):Int)) (by omega) (by omega) (by rw[<-hs3,<-ht3]);rw[Int.emod_eq_of_lt (by omega) (by omega),Int.emod_eq_of_lt (by omega) (by omega)]at inj;have hcc:(xs.take s).count (l:Int)=(xs.take t).count (l:Int):=by omega
 rcases Nat.lt_trichotomy s t with h | h | h
 ·have:=Eb h hs1 hs2;omega
 ·exact h
 ·have:=Eb h ht1 ht2;omega
end
variable {T:TypeId}{h':qaA}{y:Int}
section
theorem OV{K:qaA->Prop}(hs:¬S b)(hK:K (upd h b (.cells (ints .u64 (List.replicate 17 0)) T))) :
  yk S ⟨b,0,none⟩ 0 [Value.int IntKind.u64 0,Value.int IntKind.u64 0,Value.int IntKind.u64 0,Value.int IntKind.u64 0,Value.int IntKind.u64 0,Value.int IntKind.u64 0,Value.int IntKind.u64 0,Value.int IntKind.u64 0,Value.int IntKind.u64 0,Value.int IntKind.u64 0,Value.int IntKind.u64 0,Value.int IntKind.u64 0,Value.int IntKind.u64 0,Value.int IntKind.u64 0,Value.int IntKind.u64 0,Value.int IntKind.u64 0,Value.int IntKind.u64 0]
   (upd h b (Obj.cells (List.replicate 17 (Value.int IntKind.u64 0)).toArray T)) K:=by
 have e:(List.replicate 17 (Value.int IntKind.u64 0)).toArray=ints .u64 (List.replicate 17 0):=by unfold ints;rw[List.map_replicate]
 rw[e];refine wW (off:=0) hs (List.replicate 17 (0:Int)) 0 (upd h b (.cells (ints .u64 (List.replicate 17 0)) T)) (List.replicate 17 0) upd_same (by simp) ?_;rw[xw];exact hK
theorem Fe{cs:List Int}(hb:h' b=some (.cells (ints .u64 cs) T)){x:Nat}(hy:cs[x]? = some y):zj h' (((⟨b,0,none⟩:Addr).add (x*1)).add 0)=some (.int .u64 y):=by
 rw[Nat.mul_one,add_add,yR];simp only[zj,hb,ints,Nat.add_zero,List.getElem?_toArray,List.getElem?_map,hy];rfl
theorem Ma{cs:List Int}{K:qaA->Prop}(hb:h' b=some (.cells (ints .u64 cs) T))(hs:¬S b){x:Nat}(hx:x<cs.length)(hK:K (upd h' b (.cells (ints .u64 (cs.set x y)) T))) :
  yk S ((⟨b,0,none⟩:Addr).add (x*1)) 0 [.int .u64 y] h' K:=by
 have e0:(⟨b,0,none⟩:Addr).add (x*1)=⟨b,x,none⟩:=by rw[Nat.mul_one,yR]
 rw[e0];refine wW (off:=x) hs [y] 0 h' cs hb (by simp;omega) ?_;have e1:kM cs (x+0) [y]=cs.set x y:=by
  unfold kM;rw[List.set_eq_take_append_cons_drop,if_pos hx];simp
 rw[e1];exact hK
theorem Jl(hi:qaC S h)(O:tI.O h v xs)(L:Hk xs) :
  zb oPP S As #[v] h (fun v h'=>Cc.O h' v (y8 xs)/\Cc.New h v/\qaB h h'):=by
 obtain⟨a,c,rfl,hc,hx⟩:=Part.ints O;refine GW (vs:=[.slice a xs.length c]) ⟨rfl,trivial⟩ hi ?_;simp only[Dh,Tr.wp,Fx,z4,Ex.ev,coerce,toInt_int,za,zc,ze,zd,zf,zM,jA,z9,arith,Cst.val,SV.den,zn,zL,zz,zk,zi,yF,zy,zV,zq,vF,vG,vA,vB,vC,List.getElem?_cons_succ,decide_eq_true_eq,decide_eq_false_iff_not,vD,vE,vI,vH,vJ,and_true,if_false,vK];refine(qL hi a c xs hx).mono ?_;rintro _ hq ⟨rfl,eq⟩;rw[eq];refine⟨_,rfl,fun hbad=>?_,fun hok1=>?_⟩
 ·have hb:zt xs=0\/zt xs=2:=by simpa using hbad
  intro b hb0;simp only[y8,if_pos hb];exact⟨⟨b,[],_,rfl,upd_same⟩,fun z hz=>by cases hz;exact hb0,Sub.zC hb0⟩
 have hg:¬(zt xs=0\/zt xs=2):=by simpa using hok1
 obtain⟨hlen,hok⟩:=we hg;simp only[y8,if_neg hg];intro b1 hb1;have hs1:¬S b1:=fun hs=>hi b1 hs hb1
 refine OV hs1 ?_;refine⟨fun us h'=>∃i:Nat,us=[.int .i64 i]/\i<=xs.length/\h'=upd h b1 (.cells (ints .u64 (Ba xs i)) 184),fun us _=>xs.length-(toInt (us.getD 0 undef)).toNat,⟨0,rfl,by omega,by rw[TK]⟩,?_⟩;rintro x h' ⟨i,hx1,hi2,rfl⟩;obtain rfl:x=i:=by simpa using hx1
 have sub1:qaB h (upd h b1 (.cells (ints .u64 (Ba xs i)) 184)):=Sub.zC hb1;have w2:IntKind.i64.wrap ((i:Int)+1)=((i+1:Nat):Int):=zr;refine⟨fun hlt=>?_,fun hge=>?_⟩
 ·have hi3:i<xs.length:=by omega
  obtain⟨g1,g2⟩:=(hx.sub sub1).cell (List.getElem?_eq_getElem hi3);have hb:=hok _ (List.getElem_mem hi3);rw[w2];refine⟨by simpa using g2,by omega,hlt,xs[i],by simpa[add_add]using g1,fun hpos=>?_,fun hnp _=>?_⟩
  ·obtain⟨k,hk⟩:=Int.eq_ofNat_of_zero_le hb.1;have hk1:1<=k/\k<17:=by omega
   have hcl:=Ct (a:=(k:Int)) (i:=i) hlen;have hg:=Dv (xs:=xs) (i:=i) hk1.2;rw[if_neg (by omega)]at hg;rw[hk,Int.toNat_natCast];refine⟨by omega,by omega,_,Fe upd_same hg,by omega,by omega,?_⟩;refine Ma upd_same hs1 (by rw[Du];omega) fun _=>?_
   rw[u64_in _ (by omega),xw,<-TM hi3 hk hk1.1 hk1.2];exact⟨⟨i+1,rfl,by omega,rfl⟩,by simp only[vA,toInt_int];omega⟩
  ·exact⟨⟨i+1,rfl,by omega,by rw[TL hi3 (by omega)]⟩,by simp only[vA,toInt_int];omega⟩
 obtain rfl:i=xs.length:=by omega
 obtain⟨h1,hh1⟩:∃h1,h1=upd h b1 (.cells (ints .u64 (Ba xs xs.length)) 184):=⟨_,rfl⟩;rw[<-hh1]at sub1 ⊢;intro b2 hb2;have hb20:=ya sub1 hb2;have hs2:¬S b2:=fun hs=>hi b2 hs hb20
 have hne:b1≠b2:=fun e=>by rw[hh1,<-e,upd_same]at hb2;cases hb2
 refine OV hs2 ?_;refine⟨fun us h'=>∃l:Nat,us=[.int .i64 l]/\1<=l/\l<=16/\h'=upd h1 b2 (.cells (ints .u64 (nxL xs l)) 184),fun us _=>16-(toInt (us.getD 0 undef)).toNat,⟨1,rfl,by omega,by omega,by rw[XH]⟩,?_⟩;rintro x h' ⟨l,hx1,hl1,hl2,rfl⟩;obtain rfl:x=l:=by simpa using hx1
 have w2:IntKind.i64.wrap ((l:Int)+1)=((l+1:Nat):Int):=zr;refine⟨fun hle=>?_,fun hgt=>?_⟩
 ·have w3:IntKind.i64.wrap ((l:Int)-1)=((l-1:Nat):Int):=zr;rw[w2,w3];have gn:=Ie (xs:=xs) (i:=l) (l:=l-1) (by omega);rw[if_pos (by omega)]at gn;have gc:=Dv (xs:=xs) (i:=xs.length) (l:=l-1) (by omega);rw[List.take_length]at gc;have hc1:upd h1 b2 (.cells (ints .u64 (nxL xs l)) 184) b1=some (.cells (ints .u64 (Ba xs xs.length)) 184):=by rw[upd_ne hne,hh1,upd_same]
  refine⟨by omega,by omega,_,Fe upd_same gn,by omega,by omega,_,Fe hc1 gc,by omega,by omega,?_⟩;refine Ma upd_same hs2 (by rw[Fb];omega) ?_;have hs:=A7 (xs:=xs) hlen (l:=l) (by omega);have hs0:=A7 (xs:=xs) hlen (l:=l-1) (by omega);have hcs:cst xs l=2*(cst xs (l-1)+(if l-1=0 then 0 else((xs.count ((l-1:Nat):Int):Nat):Int))):=by
   conv=>lhs;rw[show l=l-1+1 by omega,cst]
  have hcc:0<=(if l-1=0 then(0:Int)else((xs.count ((l-1:Nat):Int):Nat):Int)):=by split <;> omega
  have m1:min (Int.toNat 1) IntKind.u64.bits=1:=by decide
  rw[m1,Int.pow_one,u64_in (cst xs (l-1)+_) (by omega),u64_in _ (by omega),Int.mul_comm,<-hcs,xw,Int.toNat_natCast,<-VL (by omega)];exact⟨⟨l+1,rfl,by omega,by omega,rfl⟩,by simp only[vA,toInt_int];omega⟩
 obtain rfl:l=16:=by omega
 have wl:IntKind.i64.wrap (xs.length:Int)=xs.length:=i64_in _ (by omega);have sub2:qaB h (upd h1 b2 (.cells (ints .u64 (nxL xs 16)) 184)):=sub1.trans (Sub.zC hb2);obtain⟨h2,hh2⟩:∃h2,h2=upd h1 b2 (.cells (ints .u64 (nxL xs 16)) 184):=⟨_,rfl⟩;rw[<-hh2]at sub2 ⊢;rw[wl];refine⟨by omega,by omega,by omega,fun b3 hb3=>?_⟩;have hb30:=ya sub2 hb3;have hne2:b3≠b2:=fun e=>by rw[hh2,e,upd_same]at hb3;cases hb3
 rw[Int.toNat_natCast,FZ];have s3:qaB h (upd h2 b3 (.cells (Eng.yP (List.replicate xs.length (0,0))) 147)):=sub2.trans (Sub.zC hb3);refine⟨fun us h'=>∃s:Nat,us=[.int .i64 s]/\s<=xs.length/\xp h' (.slice (some ⟨b3,0,none⟩) xs.length xs.length) (Bb xs s)/\h' b2=some (.cells (ints .u64 (nxS xs s)) 184)/\qaB h h',fun us _=>xs.length-(toInt (us.getD 0 undef)).toNat,⟨0,rfl,by omega,?_,?_,s3⟩,?_⟩
 ·rw[TN];have:=xp.made (h:=h2) (b:=b3) (T:=147) (List.replicate xs.length ((0:Int),(0:Int)));rwa[List.length_replicate]at this
 ·rw[upd_ne hne2.symm,hh2,upd_same,VM]
 rintro x h' ⟨s,hx1,hi2,OW,hn,sb⟩;obtain rfl:x=s:=by simpa using hx1
 have w2:IntKind.i64.wrap ((s:Int)+1)=((s+1:Nat):Int):=zr;refine⟨fun hlt=>?_,fun hge=>?_⟩
 ·have hi3:s<xs.length:=by omega
  obtain⟨g1,g2⟩:=(hx.sub sb).cell (List.getElem?_eq_getElem hi3);have hb:=hok _ (List.getElem_mem hi3);rw[w2];refine⟨by simpa using g2,by omega,hlt,xs[s],by simpa[add_add]using g1,fun hpos=>?_,fun hnp _=>?_⟩
  ·obtain⟨k,hk⟩:=Int.eq_ofNat_of_zero_le hb.1;have hk1:1<=k/\k<16:=by omega
   have hcl:=Ct (a:=(k:Int)) (i:=s) hlen;have hs:=A7 (xs:=xs) hlen (l:=k) (by omega);have hg:=QS (xs:=xs) (i:=s) hk1.2 hk1.1;rw[hk,Int.toNat_natCast];refine⟨by omega,by omega,_,Fe hn hg,?_⟩;refine(VK (hi.sub sb) _ k (by omega) (by omega) (by omega)).mono ?_;rintro _ hq ⟨rfl,eq⟩;rw[eq];refine⟨_,rfl,?_⟩;have hno:∀b,zh (.slice (some ⟨b3,0,none⟩) xs.length xs.length)=some b->¬S b:=fun z hz hs=>by cases hz;exact hi b3 hs hb30
   obtain⟨o1,o2,o3,o4⟩:=QT OW hno (i:=s) (by rw[Dw];exact hi3) (k:Int) (tl (cst xs k+(((xs.take s).count (k:Int):Nat):Int)) k);rw[Int.toNat_natCast];refine⟨by simp,by omega,hlt,o1,o2,?_⟩;have hn2:=(o4 b2 (fun e=>hne2 (by cases e;rfl))).trans hn;have sb2:qaB h (zQ (zQ h' ((((some (⟨b3,0,none⟩:Addr)).getD default).add (s*2)).add 0) (.int .i64 k)) ((((some (⟨b3,0,none⟩:Addr)).getD default).add (s*2)).add (0+1)) (.int .u64 (tl (cst xs k+(((xs.take s).count (k:Int):Nat):Int)) k))):=fun y o hy=>by
    rw[o4 y (fun e=>by cases e;rw[hb30]at hy;cases hy)];exact sb y o hy
   refine⟨by omega,by omega,_,Fe hn2 hg,by omega,by omega,?_⟩;refine Ma hn2 hs2 (by rw[Ig];omega) fun _=>?_
   rw[u64_in _ (by omega),<-VO hi3 hk hk1.1 hk1.2];have hcode:qC xs s=((k:Int),tl (cst xs k+(((xs.take s).count (k:Int):Nat):Int)) k):=by
    unfold qC;rw[qj hi3,hk,Int.toNat_natCast]
   refine⟨⟨s+1,rfl,by omega,?_,upd_same,fun y o hy=>?_⟩,by simp only[vA,toInt_int];omega⟩
   ·rw[TQ hi3 (by omega),hcode];exact o3.keep fun z hz=>upd_ne fun e=>hne2 (by cases hz;exact e)
   ·rw[upd_ne (fun e=>by rw[e,hb20]at hy;cases hy)];exact sb2 y o hy
  ·exact⟨⟨s+1,rfl,by omega,by rw[TP hi3 (by omega)];exact OW,by rw[VN hi3 (by omega)];exact hn,sb⟩,by simp only[vA,toInt_int];omega⟩
 obtain rfl:s=xs.length:=by omega
 rw[TO]at OW;exact⟨OW,fun z hz=>by cases hz;exact hb30,sb⟩
theorem xY(hi:qaC S h)(O:tI.O h v xs)(L:Hk xs) :
  zb oPP S xo #[v] h (fun v h'=>Cc.O h' v (y8 xs)/\Cc.New h v/\qaB h h'):=by
 obtain⟨a,c,rfl,hc,hx⟩:=Part.ints O;refine GU (vs:=[.slice a xs.length c]) ⟨rfl,trivial⟩ hi ?_;simp only[Dg,Tr.wp,z4,Ex.ev,coerce,toInt_int,za,zc,ze,zd,zf,zM,jA,z9,arith,Cst.val,SV.den,zn,zL,zz,zk,zi,zy,zV,zq,vF,vG,vA,vB,vC,List.getElem?_cons_succ,decide_eq_true_eq,decide_eq_false_iff_not,vD,vE,vI,vH,vJ,and_true,if_false,vK];intro b0 hb0;have e0:(Obj.cells #[] 147)=.cells (Eng.yP []) 147:=rfl;have s0:qaB h (upd h b0 (.cells (Eng.yP []) 147)):=Sub.zC hb0;refine(AZ (hi.sub s0) a c xs (hx.sub s0)).mono ?_;rintro _ hq ⟨rfl,eq⟩;rw[eq];refine⟨_,rfl,fun hbad=>?_,fun hok1=>?_⟩
 ·have hb:zt xs=0\/zt xs=2:=by simpa using hbad
  simp only[y8,if_pos hb];exact⟨⟨b0,[],_,rfl,upd_same⟩,fun z hz=>by cases hz;exact hb0,s0⟩
 have hg:¬(zt xs=0\/zt xs=2):=by simpa using hok1
 obtain⟨hlen,hok⟩:=we hg;simp only[y8,if_neg hg];refine⟨fun us h'=>∃(a:Option Addr) (c i:Nat),us=[.slice a i c,.int .i64 i]/\i<=xs.length/\xp h' (.slice a i c) (List.replicate i (0,0))/\qaD h (.slice a i c)/\qaB h h',fun us _=>xs.length-(toInt (us.getD 1 undef)).toNat,⟨_,_,0,rfl,by omega,xp.made [],New.of hb0,s0⟩,?_⟩;rintro a1 l1 c1 x h1 ⟨a1',c1',i,hx1,hi2,OW,N1,s1⟩;obtain⟨⟨rfl,rfl,rfl⟩,rfl⟩:(a1=a1'/\l1=i/\c1=c1')/\x=i:=by simpa using hx1
 refine⟨fun hlt=>?_,fun hge=>?_⟩
 ·intro b hb;have s2:qaB h1 (upd h1 b (.cells (Eng.yP [(0,0)]) 147)):=Sub.zC hb;have OW2:xp (upd h1 b (.cells (Eng.yP [(0,0)]) 147)) (.slice a1 l1 c1) (List.replicate l1 (0,0)):=OW.keep fun z hz=>upd_ne fun e=>by
   rw[e]at hz;exact OW.held b hz hb
  refine TF hi (s1.trans s2) OW2 N1 (p:=(0,0)) (jZ.of (sp:=[]) upd_same) (by rw[List.length_replicate];omega) fun v' h2 o2 n2 s3 _ _=>?_
  obtain⟨a2,c2,rfl,_,_⟩:=o2.yP;have e1:List.replicate l1 ((0:Int),(0:Int))++[(0,0)]=List.replicate (l1+1) (0,0):=by rw[List.replicate_succ']
  have w2:IntKind.i64.wrap ((l1:Int)+1)=((l1+1:Nat):Int):=zr;rw[e1]at o2 n2;simp only[zd,zc,ze,e1,w2,List.length_replicate];rw[List.length_replicate]at o2 n2;exact⟨⟨a2,c2,l1+1,rfl,by omega,o2,n2,s3⟩,by simp only[vB,vA,toInt_int];omega⟩
 obtain rfl:l1=xs.length:=by omega
 have hno:∀b,zh (.slice a1 xs.length c1)=some b->¬S b:=fun z hz hs=>hi z hs (N1 z hz)
 refine⟨fun us h'=>∃l:Nat,us=[.int .i64 (cst xs (l-1)+(if l=1 then 0 else((xs.count ((l-1:Nat):Int):Nat):Int))),.int .i64 l]/\1<=l/\l<=16/\xp h' (.slice a1 xs.length c1) (qF xs l 0)/\qaB h h',fun us _=>16-(toInt (us.getD 1 undef)).toNat,⟨1,by simp[cst],by omega,by omega,by rw[TR];exact OW,s1⟩,?_⟩;rintro x y h2 ⟨l,hx2,hl1,hl2,OW2,s2⟩;obtain⟨rfl,rfl⟩:x=cst xs (l-1)+(if l=1 then 0 else((xs.count ((l-1:Nat):Int):Nat):Int))/\y=l:=by simpa using hx2
 refine⟨fun hle=>?_,fun hgt=>?_⟩
 ·have hs:=A7 (xs:=xs) hlen (l:=l) (by omega);have hs0:=A7 (xs:=xs) hlen (l:=l-1) (by omega);have hcs:cst xs l=2*(cst xs (l-1)+(if l=1 then 0 else((xs.count ((l-1:Nat):Int):Nat):Int))):=by
   have e1:(if l=1 then(0:Int)else((xs.count ((l-1:Nat):Int):Nat):Int))=(if l-1=0 then(0:Int)else((xs.count ((l-1:Nat):Int):Nat):Int)):=by
    by_cases h:l=1
    ·rw[if_pos h,if_pos (by omega)]
    ·rw[if_neg h,if_neg (by omega)]
   rw[e1]
   conv=>lhs;rw[show l=l-1+1 by omega,cst]
  have w1:IntKind.i64.wrap (2*(cst xs (l-1)+(if l=1 then 0 else((xs.count ((l-1:Nat):Int):Nat):Int))))=cst xs l:=by rw[<-hcs];exact i64_in _ (by omega)
  rw[w1];refine⟨fun us h'=>∃i:Nat,us=[.int .i64 (cst xs l+(((xs.take i).count (l:Int):Nat):Int)),.int .i64 i]/\i<=xs.length/\xp h' (.slice a1 xs.length c1) (qF xs l i)/\qaB h h',fun us _=>xs.length-(toInt (us.getD 1 undef)).toNat,⟨0,by simp,by omega,OW2,s2⟩,?_⟩;rintro x y h3 ⟨i,hx3,hi2,OW3,s3⟩;obtain⟨rfl,rfl⟩:x=cst xs l+(((xs.take i).count (l:Int):Nat):Int)/\y=i:=by simpa using hx3
  have hcl:=Ct (a:=(l:Int)) (i:=i) hlen;refine⟨fun hlt=>?_,fun hge=>?_⟩
  ·have hi3:i<xs.length:=by omega
   obtain⟨g1,g2⟩:=(hx.sub s3).cell (List.getElem?_eq_getElem hi3);have w2:IntKind.i64.wrap ((i:Int)+1)=((i+1:Nat):Int):=zr;have hcn:=qi hi3 (l:Int);refine⟨by simpa using g2,by omega,hlt,xs[i],by simpa[add_add]using g1,fun heq=>?_,fun hneq _=>?_⟩
   ·have heq:xs[i]=(l:Int):=by simpa using heq
    refine(VJ (hi.sub s3) _ l (by omega) (by omega) (by omega)).mono ?_;rintro _ hq ⟨rfl,eq⟩;rw[eq];obtain⟨o1,o2,o3,o4⟩:=QT OW3 hno (i:=i) (by rw[Dx];exact hi3) (l:Int) (tl (cst xs l+(((xs.take i).count (l:Int):Nat):Int)) l);have ha:a1.isSome=true:=by obtain⟨_,_,_,e,_⟩:=OW;simp only[Value.slice.injEq]at e;rw[e.1];rfl
    have hcode:qC xs i=((l:Int),tl (cst xs l+(((xs.take i).count (l:Int):Nat):Int)) l):=by
     unfold qC;rw[qj hi3,heq,Int.toNat_natCast]
    refine⟨_,rfl,by simpa using ha,by omega,hlt,?_⟩;rw[Int.toNat_natCast];refine⟨o1,o2,fun _=>?_⟩;have w3:IntKind.i64.wrap (cst xs l+(((xs.take i).count (l:Int):Nat):Int)+1)=cst xs l+(((xs.take (i+1)).count (l:Int):Nat):Int):=by
     rw[i64_in _ (by omega),hcn,if_pos heq];omega
    rw[w2,w3];refine⟨⟨i+1,rfl,by omega,?_,fun y o hy=>?_⟩,by simp only[vB,vA,toInt_int];omega⟩
    ·rw[TZ hi3 heq,hcode];exact o3
    ·rw[o4 y (fun e=>by rw[N1 y e]at hy;cases hy)];exact s3 y o hy
   ·have hneq:xs[i]≠(l:Int):=by simpa using hneq
    have w3:cst xs l+(((xs.take i).count (l:Int):Nat):Int)=cst xs l+(((xs.take (i+1)).count (l:Int):Nat):Int):=by
     rw[hcn,if_neg hneq];rfl
    rw[w2];exact⟨⟨i+1,by rw[w3],by omega,by rw[TX hi3 hneq];exact OW3,s3⟩,by simp only[vB,vA,toInt_int];omega⟩
  ·obtain rfl:i=xs.length:=by omega
   have w2:IntKind.i64.wrap ((l:Int)+1)=((l+1:Nat):Int):=zr;rw[w2,List.take_length];rw[TS hl1]at OW3;exact⟨⟨l+1,by rw[Nat.add_sub_cancel,if_neg (by omega)],by omega,by omega,OW3,s3⟩,by simp only[vB,vA,toInt_int];omega⟩
 ·obtain rfl:l=16:=by omega
  rw[TU hok]at OW2;exact⟨OW2,N1,s2⟩
end
section
def Sm(r:Int×Int×Int):Value:=.agg #[.int .i64 r.1,.int .i64 r.2.1,.int .i64 r.2.2]
theorem Ub{l v M:Nat}(hM:∀c∈cs,c.1<=M)(h:Ec cs l v):l<M:=by
 obtain⟨c,hc,h1,_⟩:=h;have:=hM c hc;omega
theorem Ff{s l v L β:Nat}(hs:cs[s]? = some (L,β)):Em cs (s+1) l v<->Em cs s l v\/(l<L/\β%2^l=v):=by
 constructor
 ·rintro⟨t,c,h1,h2,h3⟩;by_cases h:t=s
  ·subst h;rw[hs]at h2;have:=Option.some.inj h2;subst this;exact .inr h3
  ·exact .inl ⟨t,c,by omega,h2,h3⟩
 ·rintro(⟨t,c,h1,h2,h3⟩ | h3)
  ·exact⟨t,c,by omega,h2,h3⟩
  ·exact⟨s,_,by omega,hs,h3⟩
theorem VR(hi:qaC S h)(a:Option Addr)(c:Nat)(ps:List (Int×Int))(cs:List (Nat×Nat))(hx:jZ h a ps)(hlen:ps.length<=1048576)(hcl:cs.length=ps.length)
  (hcs:∀(j:Nat) p,ps[j]? = some p->∃l b:Nat,p=((l:Int),(b:Int))/\cs[j]? = some (l,b)/\l<=15/\b<2^l)(U:uniq cs)(b n:Nat)(hb:b<18446744073709551616)(hn:n<=64) :
  zb oPP S Cr #[.slice a ps.length c,.int .u64 b,.int .i64 n] h (fun v h'=>v=Sm (nxt cs b (n+1) 0)/\h'=h):=by
 refine Kg (vs:=[.slice a ps.length c,.int .u64 b,.int .i64 n]) ⟨rfl,rfl,rfl,trivial⟩ hi ?_;simp only[Gf,Tr.wp,z4,Ex.ev,coerce,toInt_int,za,zc,ze,zd,zf,zM,xg,z9,arith,Cst.val,SV.den,zn,zL,zz,zk,zi,zy,zV,zq,vF,vG,vA,vB,vC,List.getElem?_cons_succ,decide_eq_true_eq,decide_eq_false_iff_not,vD,vE,vI,vH,vJ,Nat.zero_add,and_true,if_false,vK];have hM:∀c∈cs,c.1<=15:=fun c hc=>by
  obtain⟨j,hj⟩:=List.getElem?_of_mem hc;have hj2:j<ps.length:=by rw[<-hcl];exact(List.getElem?_eq_some_iff.1 hj).1
  obtain⟨l,b,_,h2,h3,_⟩:=hcs j _ (List.getElem?_eq_getElem hj2);rw[hj]at h2;have:=Option.some.inj h2;rw[this];exact h3
 refine⟨fun us h'=>∃l:Nat,us=[.int .i64 l]/\l<=n+1/\l<=15/\nxt cs b (n+1) 0=nxt cs b (n+1-l) l/\h'=h,fun us _=>n+1-(toInt (us.getD 0 undef)).toNat,⟨0,rfl,by omega,by omega,rfl,rfl⟩,?_⟩;rintro x h' ⟨l,hx1,hl1,hl15,hnx,rfl⟩;obtain rfl:x=l:=by simpa using hx1
 refine⟨fun hle=>?_,fun hgt=>?_⟩
 ·refine(jK hi l (by omega) (by omega)).mono ?_;rintro _ hq ⟨rfl,eq⟩;rw[eq];have hp:2^l<=2^15:=Nat.pow_le_pow_right (by decide) hl15;have hp0:0<2^l:=Nat.two_pow_pos l;have e15:2^15=32768:=by decide
  have hpne:(((2^l:Nat):Int) != 0)=true:=by
   have:((2^l:Nat):Int)≠0:=by omega
   exact bne_iff_ne.2 this
  have wP:IntKind.u64.wrap ((2^(l:Int).toNat:Nat):Int)=((2^l:Nat):Int):=by rw[Int.toNat_natCast];exact u64_in _ (by omega)
  obtain⟨low,hlow⟩:∃low,low=b%2^l:=⟨_,rfl⟩;have wlow:(b:Int).tmod ((2^l:Nat):Int)=(low:Int):=by rw[Int.tmod_eq_emod_of_nonneg (by omega),hlow];push_cast;rfl
  obtain⟨f,hf⟩:∃f,n+1-l=f+1:=⟨n-l,by omega⟩;have hnx2:nxt cs b (n+1) 0=(if Ym cs cs.length l low≠0 then(1,(Ym cs cs.length l low:Int)-1,(l:Int))else if Ec cs l low then nxt cs b f (l+1)else(0,0,0)):=by rw[hnx,hf,nxt,hlow]
  refine⟨_,rfl,?_⟩;rw[wP,wlow];refine⟨hpne,fun us h''=>∃(s:Nat) (B:Bool),us=[.bool B,.int .i64 s]/\s<=ps.length/\(B=true<->Em cs s l low)/\(∀t,t<s->cs[t]? = some (l,low)->¬0<l)/\h''=h',fun us _=>ps.length-(toInt (us.getD 1 undef)).toNat,⟨0,false,rfl,by omega,⟨fun h=>(by cases h),fun⟨t,_,h,_⟩=>(by omega)⟩,fun t h=>by omega,rfl⟩,?_⟩;rintro B' x h'' ⟨s,B,hx2,hs,hB,hnone,rfl⟩;obtain⟨rfl,rfl⟩:B'=B/\x=s:=by simpa using hx2
  refine⟨fun hlt=>?_,fun hge=>?_⟩
  ·have hs3:s<ps.length:=by omega
   obtain⟨L,β,hp1,hc1,hL15,hβ⟩:=hcs s _ (List.getElem?_eq_getElem hs3);obtain⟨g1,g2,g3⟩:=hx.cell (List.getElem?_eq_getElem hs3);rw[hp1]at g1 g2;have w2:IntKind.i64.wrap ((s:Int)+1)=((s+1:Nat):Int):=zr;refine⟨by simpa using g3,by omega,hlt,(L:Int),(β:Int),⟨by simpa[add_add]using g1,by simpa[add_add]using g2⟩,fun hm=>?_,fun hm=>?_⟩
   ·have hm:L=l/\0<L/\β=low:=by simp at hm;omega
    obtain⟨rfl,hL0,rfl⟩:=hm;have hy:=zaj U hc1 hL0 (m:=cs.length) (by omega);rw[hnx2,hy,if_pos (by omega)];refine⟨?_,rfl⟩;unfold Sm;simp only;rw[show((s+1:Nat):Int)-1=(s:Int) by omega]
   ·have hm:¬(L=l/\0<L/\β=low):=by
     rintro⟨rfl,hL0,rfl⟩;simp at hm;omega
    have hnone':∀t,t<s+1->cs[t]? = some (l,low)->¬0<l:=fun t ht hc=>by
     by_cases h:t=s
     ·subst h;rw[hc1]at hc;simp only[Option.some.injEq,Prod.mk.injEq]at hc;intro h0;exact hm ⟨hc.1,by omega,hc.2⟩
     ·exact hnone t (by omega) hc
    have hms:(fun(us:List Value) (_:qaA)=>ps.length-(toInt (us.getD 1 undef)).toNat) [.bool B',.int .i64 (IntKind.i64.wrap ((s:Int)+1))] h''<(fun(us:List Value) (_:qaA)=>ps.length-(toInt (us.getD 1 undef)).toNat) [.bool B',.int .i64 s] h'':=by
     rw[w2];simp only[vB,vA,toInt_int];omega
    refine⟨fun hB0=>⟨fun hLl=>?_,fun hLl _=>?_⟩,fun hB1 _=>?_⟩
    ·have hB0:B'=false:=by simpa using hB0
     refine(jK hi l (by omega) (by omega)).mono ?_;rintro _ hq ⟨rfl,eq⟩;rw[eq];refine⟨_,rfl,?_⟩;rw[wP];refine⟨hpne,fun _=>⟨?_,hms⟩⟩;have wβ:(β:Int).tmod ((2^l:Nat):Int)=((β%2^l:Nat):Int):=by rw[Int.tmod_eq_emod_of_nonneg (by omega)];push_cast;rfl
     rw[wβ];refine⟨s+1,_,by rw[w2],by omega,?_,hnone',rfl⟩;rw[Ff hc1,<-hB,hB0];constructor
     ·intro h;have h2:((β%2^l:Nat):Int)=(low:Int):=beq_iff_eq.1 h;exact .inr ⟨by omega,by exact_mod_cast h2⟩
     ·rintro(h | ⟨_,h⟩)
      ·cases h
      ·rw[h];exact beq_iff_eq.2 rfl
    ·have hB0:B'=false:=by simpa using hB0
     refine⟨⟨s+1,_,by rw[w2],by omega,?_,hnone',rfl⟩,hms⟩;rw[Ff hc1,<-hB,hB0];simp;omega
    ·have hB1:B'=true:=by simpa using hB1
     refine⟨⟨s+1,_,by rw[w2],by omega,?_,hnone',rfl⟩,hms⟩;rw[Ff hc1,<-hB,hB1];simp
  ·obtain rfl:s=ps.length:=by omega
   have hY0:Ym cs cs.length l low=0:=QV (by rw[hcl];exact hnone);rw[<-hcl,LY]at hB;rw[hY0]at hnx2;simp only[ne_eq,not_true_eq_false,if_false]at hnx2;refine⟨fun hB0=>?_,fun hB1=>?_⟩
   ·have hB0:B'=false:=by simpa using hB0
    rw[hB0]at hB;rw[hnx2,if_neg (fun h=>by have:=hB.2 h;cases this)];exact⟨rfl,rfl⟩
   ·have hB1:B'=true:=by simpa using hB1
    have hE:=hB.1 hB1;have hl:=Ub hM hE;have w2:IntKind.i64.wrap ((l:Int)+1)=((l+1:Nat):Int):=zr;rw[w2];refine⟨⟨l+1,rfl,by omega,by omega,?_,rfl⟩,by simp only[vA,toInt_int];omega⟩;rw[hnx2,if_pos hE];congr 1;omega
 ·have e:n+1-l=0:=by omega
  rw[hnx,e];exact⟨rfl,rfl⟩
end
variable {bs:List Int}{w:Bool}{ac:Option Addr}{cc lc:Nat}
section
structure Rd where
 i:Int
 k:Int
def tk(bs:List Int)(n:Nat)(r:Rd):Rd×Int:=
 if r.k=0 then if r.i+n>8*(bs.length:Int)then(⟨r.i,2⟩,0)else(⟨r.i+n,0⟩,yg bs r.i.toNat n)else(r,0)
def bd(w:Bool)(r:Rd):Rd:=if r.k=0/\w=true then⟨r.i,3⟩else r
def look(bs:List Int)(i:Nat):Nat:=min 15 (8*bs.length-i)
def nxB(bs:List Int)(cs:List (Nat×Nat))(i:Nat):Int×Int×Int:=nxt cs (yg bs i (look bs i)).toNat (look bs i+1) 0
def sy(bs:List Int)(cs:List (Nat×Nat))(r:Rd):Rd×Int:=
 if r.k=0 then(⟨r.i+(nxB bs cs r.i.toNat).2.2,if(nxB bs cs r.i.toNat).1=2 then 2 else if(nxB bs cs r.i.toNat).1=0 then 3 else 0⟩,(nxB bs cs r.i.toNat).2.1)else(r,0)
def okR(bs:List Int)(r:Rd):Prop:=r.k=0->0<=r.i/\r.i<=8*(bs.length:Int)
theorem y7{r:Rd}(H:okR bs r):okR bs (tk bs n r).1:=by
 unfold tk;by_cases h0:r.k=0
 ·rw[if_pos h0];have:=H h0;split
  ·intro h;cases h
  ·intro _;simp only;omega
 ·rw[if_neg h0];exact H
theorem yp{r:Rd}:0<=(tk bs n r).2/\(tk bs n r).2<2^n:=by
 have hp:(0:Int)<2^n:=Int.pow_pos (by decide);unfold tk;split
 ·split
  ·exact⟨by simp,hp⟩
  ·exact qS
 ·exact⟨by simp,hp⟩
theorem OX{r:Rd}(h:(tk bs n r).1.k=0):r.k=0:=by
 unfold tk at h;by_cases h0:r.k=0
 ·exact h0
 ·rw[if_neg h0]at h;exact absurd h h0
theorem jC{r:Rd}(H:okR bs r):okR bs (bd w r):=by
 unfold bd;split
 ·intro h;cases h
 ·exact H
theorem Hn{r:Rd}:(bd w r).k=0<->r.k=0/\w=false:=by
 unfold bd;split
 ·rename_i h;simp[h.2]
 ·rename_i h;by_cases h0:r.k=0
  ·simp only[h0,true_and]at h ⊢;simpa using h
  ·simp[h0]
theorem zal(hM:∀c∈cs,c.1<=15){l v:Nat}(h:Ec cs l v):l<15:=Ub hM h
theorem Ho{cs:List (Nat×Nat)}{b:Nat}:∀ {f l:Nat},True ->
  let x:=nxt cs b f l
  (x.1=1/\0<=x.2.1/\x.2.1<cs.length/\(l:Int)<=x.2.2/\x.2.2+1<=(l:Int)+f/\1<=x.2.2)\/((x.1=0\/x.1=2)/\x.2.1=0/\x.2.2=0)
 | 0,l,hy=>.inr ⟨.inr rfl,rfl,rfl⟩
 | f+1,l,hy=>by
  simp only[nxt];split
  ·rename_i hne;refine .inl ⟨rfl,?_⟩;obtain⟨s,hs,_,hl,e⟩:=Fc hne;simp only[e];refine⟨by omega,by omega,by omega,by push_cast;omega,by omega⟩
  ·split
   ·rcases Ho (cs:=cs) (b:=b) (f:=f) (l:=l+1) hy with⟨h1,h2,h3,h4,h5,h6⟩ | h
    ·exact .inl ⟨h1,h2,h3,by push_cast at h4;omega,by push_cast at h5 ⊢;omega,h6⟩
    ·exact .inr h
   ·exact .inr ⟨.inl rfl,rfl,rfl⟩
theorem wh :
  ((nxB bs cs i).1=1/\0<=(nxB bs cs i).2.1/\(nxB bs cs i).2.1<cs.length/\1<=(nxB bs cs i).2.2/\(nxB bs cs i).2.2<=look bs i)\/(((nxB bs cs i).1=0\/(nxB bs cs i).1=2)/\(nxB bs cs i).2.1=0/\(nxB bs cs i).2.2=0):=by
 rcases Ho (cs:=cs) (b:=(yg bs i (look bs i)).toNat) (f:=look bs i+1) (l:=0) trivial with⟨h1,h2,h3,h4,h5,h6⟩ | h
 ·exact .inl ⟨h1,h2,h3,h6,by unfold nxB;omega⟩
 ·exact .inr h
theorem qk{r:Rd}(H:okR bs r):okR bs (sy bs cs r).1:=by
 unfold sy;by_cases h0:r.k=0
 ·rw[if_pos h0];have:=H h0;intro hk;simp only at hk ⊢;rcases wh (bs:=bs) (cs:=cs) (i:=r.i.toNat)with⟨h1,h2,h3,h4,h5⟩ | ⟨_,_,h⟩
  ·unfold look at h5;omega
  ·omega
 ·rw[if_neg h0];exact H
theorem zaM{r:Rd}(h:(sy bs cs r).1.k=0):r.k=0/\r.i+1<=(sy bs cs r).1.i/\0<=(sy bs cs r).2/\(sy bs cs r).2<cs.length:=by
 unfold sy at h ⊢;by_cases h0:r.k=0
 ·rw[if_pos h0]at h ⊢;simp only at h ⊢;rcases wh (bs:=bs) (cs:=cs) (i:=r.i.toNat)with⟨h1,h2,h3,h4,h5⟩ | ⟨h1,_,_⟩
  ·exact⟨h0,by omega,h2,h3⟩
  ·rcases h1 with h1 | h1 <;> simp[h1]at h
 ·rw[if_neg h0]at h;exact absurd h h0
def rdV(a:Option Addr)(c:Nat)(bs:List Int)(r:Rd):Value:=.agg #[.slice a bs.length c,.int .i64 r.i,.int .i64 r.k]
theorem xZ(hi:qaC S h)(a:Option Addr)(c:Nat)(bs:List Int)(r:Rd)(w:Bool) :
  zb oPP S y6 #[rdV a c bs r,.bool w] h (fun v h'=>v=rdV a c bs (bd w r)/\h'=h):=by
 refine LL (vs:=[.slice a bs.length c,.int .i64 r.i,.int .i64 r.k,.bool w]) ⟨rfl,rfl,rfl,rfl,trivial⟩ hi ?_;simp only[GP,Tr.wp,Ex.ev,coerce,toInt_int,za,zc,ze,zd,xg,xL,z9,Cst.val,SV.den,vA,vB,vD,vE,and_true];obtain⟨i,k⟩:=r;unfold bd rdV;by_cases h0:k=0
 ·subst h0;cases w <;> simp
 ·simp[h0]
theorem xD(hi:qaC S h)(hx:zo h .u8 a bs)(L:bs.length<=1048576)(r:Rd)(ok:okR bs r)(n:Nat)(hn:n<=32) :
  zb oPP S yo #[rdV a c bs r,.int .i64 n] h (fun v h'=>v=.tuple #[rdV a c bs (tk bs n r).1,.int .i64 (tk bs n r).2]/\h'=h):=by
 refine Kc (vs:=[.slice a bs.length c,.int .i64 r.i,.int .i64 r.k,.int .i64 n]) ⟨rfl,rfl,rfl,rfl,trivial⟩ hi ?_;simp only[Ga,Tr.wp,z4,Ex.ev,coerce,toInt_int,za,zc,ze,zd,xg,xL,z9,arith,Cst.val,SV.den,zn,zL,zz,zk,zi,zy,zV,vF,vG,vA,vB,vC,List.getElem?_cons_succ,decide_eq_true_eq,decide_eq_false_iff_not,vD,vE,vI,vH,vJ,and_true,if_true,if_false,vK];obtain⟨i,k⟩:=r;simp only at ok ⊢;have w8:IntKind.i64.wrap (8*(bs.length:Int))=8*(bs.length:Int):=i64_in _ (by omega);rw[w8];by_cases hk:k=0
 ·subst hk;have ok:=ok rfl;simp only at ok;have w1:IntKind.i64.wrap (i+(n:Int))=i+(n:Int):=i64_in _ (by omega);have w2:IntKind.i64.wrap ((n:Int)-1)=(n:Int)-1:=i64_in _ (by omega);rw[w1,w2];by_cases hs:i+(n:Int)>8*(bs.length:Int)
  ·have e:tk bs n ⟨i,0⟩=(⟨i,2⟩,0):=by unfold tk;rw[if_pos rfl,if_pos hs]
   rw[e];simp[hs,rdV]
  ·have e:tk bs n ⟨i,0⟩=(⟨i+n,0⟩,yg bs i.toNat n):=by unfold tk;rw[if_pos rfl,if_neg hs]
   rw[e];simp only[hs,rdV];refine⟨fun hne=>by simp at hne,fun _=>?_⟩;refine⟨fun us h'=>∃j:Nat,us=[.int .i64 (yg bs (i.toNat+j) (n-j)),.int .i64 ((j:Int)-1)]/\j<=n/\h'=h,fun us _=>(toInt (us.getD 1 undef)+1).toNat,⟨n,?_,by omega,rfl⟩,?_⟩
   ·rw[Nat.sub_self];rfl
   rintro x y h' ⟨j,hx1,hj,rfl⟩;obtain⟨rfl,rfl⟩:x=yg bs (i.toNat+j) (n-j)/\y=(j:Int)-1:=by simpa using hx1
   refine⟨fun hge=>?_,fun hlt=>?_⟩
   ·obtain⟨m,rfl⟩:∃m,j=m+1:=⟨j-1,by omega⟩;have w3:IntKind.i64.wrap (i+(((m+1:Nat):Int)-1))=((i.toNat+m:Nat):Int):=zr;rw[w3];refine(QR hi a c bs (i.toNat+m) hx L (by omega)).mono ?_;rintro _ hq ⟨rfl,rfl⟩;obtain⟨k,hk⟩:∃k,n-(m+1)=k:=⟨_,rfl⟩;have hk2:n-m=k+1:=by omega
    have lt:=qS (xs:=bs) (a:=i.toNat+(m+1)) (n:=k);have hp:(2:Int)^k<=2^32:=by
     rw[yC,yC];exact_mod_cast Nat.pow_le_pow_right (by decide) (by omega)
    have hp32:(2:Int)^32=4294967296:=by decide
    have hbit:=Bx (xs:=bs) (i:=i.toNat+m);rw[hk];have w4:IntKind.i64.wrap (2*yg bs (i.toNat+(m+1)) k)=2*yg bs (i.toNat+(m+1)) k:=i64_in _ (by omega);have w4b:IntKind.i64.wrap (xu bs (i.toNat+m))=xu bs (i.toNat+m):=i64_in _ (by omega);have w5:IntKind.i64.wrap (2*yg bs (i.toNat+(m+1)) k+xu bs (i.toNat+m))=yg bs (i.toNat+m) (k+1):=by
     rw[i64_in _ (by omega),Tx,Nat.add_assoc]
    have w6:IntKind.i64.wrap (((m+1:Nat):Int)-1-1)=(m:Int)-1:=zr;refine⟨_,rfl,⟨m,?_,by omega,rfl⟩,?_⟩
    ·rw[hk2,w4,w4b,w5,w6]
    ·rw[w6];simp only[vB,vA,toInt_int];omega
   ·obtain rfl:j=0:=by omega
    exact⟨rfl,rfl⟩
 ·have e:tk bs n ⟨i,k⟩=(⟨i,k⟩,0):=by unfold tk;rw[if_neg hk]
  rw[e];simp[hk,rdV]
structure CodesAt(h:qaA)(a:Option Addr)(l:Nat)(cs:List (Nat×Nat)):Prop where
 hx:∃ps:List (Int×Int),jZ h a ps/\ps.length=l/\cs.length=ps.length/\∀(j:Nat) p,ps[j]? = some p->∃l b:Nat,p=((l:Int),(b:Int))/\cs[j]? = some (l,b)/\l<=15/\b<2^l
 un:uniq cs
 ll:l<=1000
theorem CodesAt.sub(H:CodesAt h a l cs)(s:qaB h h'):CodesAt h' a l cs:=by
 obtain⟨⟨ps,h1,h2⟩,h3,h4⟩:=H;exact⟨⟨ps,h1.sub s,h2⟩,h3,h4⟩
theorem QX:look bs i<=15:=by unfold look;omega
theorem Mb(hi:qaC S h)(hx:zo h .u8 a bs)(L:bs.length<=1048576)(r:Rd)(ok:okR bs r)(C:r.k=0->CodesAt h ac lc cs) :
  zb oPP S qZ #[rdV a c bs r,.slice ac lc cc] h (fun v h'=>v=.tuple #[rdV a c bs (sy bs cs r).1,.int .i64 (sy bs cs r).2]/\h'=h):=by
 refine LN (vs:=[.slice a bs.length c,.int .i64 r.i,.int .i64 r.k,.slice ac lc cc]) ⟨rfl,rfl,rfl,rfl,trivial⟩ hi ?_;simp only[GR,Tr.wp,z4,Ex.ev,coerce,toInt_int,za,zc,ze,zd,xg,xL,z9,arith,Cst.val,SV.den,zn,zL,zz,zk,zi,zy,zV,vF,vG,vA,vB,vC,List.getElem?_cons_succ,decide_eq_true_eq,vD,vE,vI,vH,vJ,Nat.zero_add,and_true,if_true,if_false,vK];obtain⟨i,k⟩:=r;simp only at ok C ⊢;by_cases hk:k=0
 ·subst hk;have ok:=ok rfl;simp only at ok;refine⟨fun hne=>by simp at hne,fun _=>?_⟩;obtain⟨m,rfl⟩:=Int.eq_ofNat_of_zero_le ok.1;have w8:IntKind.i64.wrap (8*(bs.length:Int))=8*(bs.length:Int):=i64_in _ (by omega);rw[w8];refine⟨fun us h'=>∃j:Nat,us=[.int .u64 (yg bs m j),.int .i64 j]/\j<=look bs m/\h'=h,fun us _=>15-(toInt (us.getD 1 undef)).toNat,⟨0,rfl,by omega,rfl⟩,?_⟩;rintro x y h' ⟨j,hx1,hj,rfl⟩;obtain⟨rfl,rfl⟩:x=yg bs m j/\y=j:=by simpa using hx1
  have hj15:=QX (bs:=bs) (i:=m);have w1:IntKind.i64.wrap ((m:Int)+(j:Int))=((m+j:Nat):Int):=zr;rw[w1];refine⟨fun hlt=>?_,fun hge=>?_⟩
  ·have hlt:j<15/\((m+j:Nat):Int)<8*(bs.length:Int):=by simp at hlt;omega
   refine(QR hi a c bs (m+j) hx L (by omega)).mono ?_;rintro _ hq ⟨rfl,rfl⟩;have hbit:=Bx (xs:=bs) (i:=m+j);have lt:=qS (xs:=bs) (a:=m) (n:=j);have hp:(2:Int)^j<=2^15:=by
    rw[yC,yC];exact_mod_cast Nat.pow_le_pow_right (by decide) (by omega)
   have hp15:(2:Int)^15=32768:=by decide
   have wu:IntKind.u64.wrap (j:Int)=j:=u64_in _ (by omega);have m64:min (j:Int).toNat IntKind.u64.bits=j:=by
    have:IntKind.u64.bits=64:=rfl;rw[this];omega
   rw[wu,m64];have hb01:xu bs (m+j)=0\/xu bs (m+j)=1:=by omega
   have wm:IntKind.u64.wrap (xu bs (m+j)*2^j)=xu bs (m+j)*2^j:=by
    rcases hb01 with e | e <;> rw[e] <;> exact u64_in _ (by omega)
   have wa:IntKind.u64.wrap (yg bs m j+xu bs (m+j)*2^j)=yg bs m (j+1):=by
    rw[yg];rcases hb01 with e | e <;> rw[e] <;> exact u64_in _ (by omega)
   have w2:IntKind.i64.wrap ((j:Int)+1)=((j+1:Nat):Int):=zr;refine⟨xu bs (m+j),rfl,by omega,?_⟩;rw[wm,wa,w2];exact⟨⟨j+1,rfl,by unfold look;omega,rfl⟩,by simp only[vB,vA,toInt_int];omega⟩
  ·have hge:¬(j<15/\((m+j:Nat):Int)<8*(bs.length:Int)):=by simp at hge;omega
   have hjl:j=look bs m:=by unfold look at hj ⊢;omega
   obtain⟨⟨ps,c1,c2,c3,c4⟩,c5,c6⟩:=C rfl;subst c2;have lt:=qS (xs:=bs) (a:=m) (n:=j);have hp:(2:Int)^j<=2^15:=by
    rw[yC,yC];exact_mod_cast Nat.pow_le_pow_right (by decide) (by omega)
   have hp15:(2:Int)^15=32768:=by decide
   obtain⟨b,hb⟩:=Int.eq_ofNat_of_zero_le lt.1;rw[hb];refine(VR hi ac cc ps cs c1 (by omega) c3 c4 c5 b j (by omega) (by omega)).mono ?_;rintro _ hq ⟨rfl,rfl⟩;have eN:nxt cs b (j+1) 0=nxB bs cs m:=by unfold nxB;rw[<-hjl,hb];rfl
   rw[eN];refine⟨_,_,_,rfl,?_⟩;have eS:sy bs cs ⟨(m:Int),0⟩=(⟨(m:Int)+(nxB bs cs m).2.2,if(nxB bs cs m).1=2 then 2 else if(nxB bs cs m).1=0 then 3 else 0⟩,(nxB bs cs m).2.1):=by unfold sy;rw[if_pos rfl];rfl
   rw[eS];have F:=wh (bs:=bs) (cs:=cs) (i:=m);generalize nxB bs cs m=x at F ⊢;obtain⟨kx,sx,lx⟩:=x;simp only at F ⊢;have wl:IntKind.i64.wrap ((m:Int)+lx)=(m:Int)+lx:=i64_in _ (by omega);have e2:(if(kx==2)=true then(2:Int)else 0)=(⟨(m:Int),if kx=2 then 2 else 0⟩:Rd).k:=by by_cases h:kx=2 <;> simp[h]
   rw[e2];refine(xZ hi a c bs ⟨(m:Int),if kx=2 then 2 else 0⟩ (kx==0)).mono ?_;rintro _ hq2 ⟨rfl,rfl⟩;have e3:bd (kx==0) ⟨(m:Int),if kx=2 then 2 else 0⟩=⟨(m:Int),if kx=2 then 2 else if kx=0 then 3 else 0⟩:=by
    unfold bd;by_cases h2:kx=2
    ·subst h2;simp
    ·by_cases h0:kx=0
     ·subst h0;simp
     ·simp[h2,h0]
   rw[e3];exact⟨_,_,_,_,_,rfl,by rw[wl];exact⟨rfl,rfl⟩⟩
 ·have e:sy bs cs ⟨i,k⟩=(⟨i,k⟩,0):=by unfold sy;rw[if_neg hk]
  rw[e];simp[hk,rdV]
end
variable {r:Rd}{all:List Int}{ca tot:Nat}{h0:qaA}{aa:Option Addr}
section
theorem OY:∀m,Ym cs m 0 0=0
 | 0=>rfl
 | m+1=>by rw[Ym,if_neg (fun h=>by omega)];exact OY m
def rp(bs:List Int)(r:Rd)(all:List Int)(x:Int):Rd×List Int:=
 if x=16 then((tk bs 2 (bd (all.length==0) r)).1,if(tk bs 2 (bd (all.length==0) r)).1.k=0 then all++List.replicate ((tk bs 2 (bd (all.length==0) r)).2+3).toNat (all.getD (all.length-1) 0)else all)
 else if x=17 then((tk bs 3 r).1,if(tk bs 3 r).1.k=0 then all++List.replicate ((tk bs 3 r).2+3).toNat 0 else all)
 else if x=18 then((tk bs 7 r).1,if(tk bs 7 r).1.k=0 then all++List.replicate ((tk bs 7 r).2+11).toNat 0 else all)
 else(r,if r.k=0 then all++[x]else all)
theorem zam(H:okR bs r):okR bs (rp bs r all x).1:=by
 unfold rp;split
 ·exact y7 (jC H)
 ·split
  ·exact y7 H
  ·split
   ·exact y7 H
   ·exact H
theorem Zc:all.length<=(rp bs r all x).2.length/\(rp bs r all x).2.length<=all.length+138/\((rp bs r all x).1.k=0->all.length<(rp bs r all x).2.length):=by
 have h2:=yp (bs:=bs) (n:=2) (r:=bd (all.length==0) r);have h3:=yp (bs:=bs) (n:=3) (r:=r);have h7:=yp (bs:=bs) (n:=7) (r:=r);have e2:(2:Int)^2=4:=by decide
 have e3:(2:Int)^3=8:=by decide
 have e7:(2:Int)^7=128:=by decide
 unfold rp;split
 ·split
  ·simp only[List.length_append,List.length_replicate];exact⟨by omega,by omega,fun _=>by omega⟩
  ·rename_i hk;exact⟨Nat.le_refl _,Nat.le_add_right _ _,fun h=>absurd h hk⟩
 ·split
  ·split
   ·simp only[List.length_append,List.length_replicate];exact⟨by omega,by omega,fun _=>by omega⟩
   ·rename_i hk;exact⟨Nat.le_refl _,Nat.le_add_right _ _,fun h=>absurd h hk⟩
  ·split
   ·split
    ·simp only[List.length_append,List.length_replicate];exact⟨by omega,by omega,fun _=>by omega⟩
    ·rename_i hk;exact⟨Nat.le_refl _,Nat.le_add_right _ _,fun h=>absurd h hk⟩
   ·split
    ·simp only[List.length_append,List.length_singleton];exact⟨by omega,by omega,fun _=>by omega⟩
    ·rename_i hk;exact⟨Nat.le_refl _,Nat.le_add_right _ _,fun h=>absurd h hk⟩
def lg1(bs:List Int)(cs:List (Nat×Nat))(tot:Nat)(r:Rd)(all:List Int):Rd×List Int:=
 if(sy bs cs r).1.k=0 then(bd (decide (tot<(rp bs (sy bs cs r).1 all (sy bs cs r).2).2.length)) (rp bs (sy bs cs r).1 all (sy bs cs r).2).1,(rp bs (sy bs cs r).1 all (sy bs cs r).2).2)else((sy bs cs r).1,all)
def lg(bs:List Int)(cs:List (Nat×Nat))(tot:Nat)(r:Rd)(all:List Int):Rd×List Int:=
 if h:r.k=0/\all.length<tot then
  if h2:all.length<(lg1 bs cs tot r all).2.length then lg bs cs tot (lg1 bs cs tot r all).1 (lg1 bs cs tot r all).2 else lg1 bs cs tot r all
 else(r,all)
termination_by tot-all.length
theorem K7(H:okR bs r):okR bs (lg1 bs cs tot r all).1:=by
 unfold lg1;split
 ·exact jC (zam (qk H))
 ·exact qk H
theorem A8:all.length<=(lg1 bs cs tot r all).2.length/\(lg1 bs cs tot r all).2.length<=all.length+138/\((lg1 bs cs tot r all).1.k=0->all.length<(lg1 bs cs tot r all).2.length/\(lg1 bs cs tot r all).2.length<=tot):=by
 have R:=Zc (bs:=bs) (r:=(sy bs cs r).1) (all:=all) (x:=(sy bs cs r).2);unfold lg1;split
 ·refine⟨R.1,R.2.1,fun h=>?_⟩;obtain⟨h1,h2⟩:=Hn.1 h;exact⟨R.2.2 h1,by simpa using h2⟩
 ·rename_i hk;exact⟨by simp,by simp,fun h=>absurd h hk⟩
theorem A9(h:r.k=0/\all.length<tot):lg bs cs tot r all=lg bs cs tot (lg1 bs cs tot r all).1 (lg1 bs cs tot r all).2:=by
 rw[lg,dif_pos h];split
 ·rfl
 ·rename_i h2;have:=A8 (bs:=bs) (cs:=cs) (tot:=tot) (r:=r) (all:=all);have hk:(lg1 bs cs tot r all).1.k≠0:=fun e=>h2 (this.2.2 e).1
  rw[lg,dif_neg (fun e=>hk e.1)]
theorem yU(h:¬(r.k=0/\all.length<tot)):lg bs cs tot r all=(r,all):=by rw[lg,dif_neg h]
def ord:List Nat:=[16,17,18,0,8,7,9,6,10,5,11,4,12,3,13,2,14,1,15]
def sm(bs:List Int)(r:Rd):Nat->Rd×List Int
 | 0=>(r,List.replicate 19 0)
 | k+1=>((tk bs 3 (sm bs r k).1).1,(sm bs r k).2.set (ord.getD k 0) (tk bs 3 (sm bs r k).1).2)
theorem K8(H:okR bs r):∀ {k:Nat},okR bs (sm bs r k).1
 | 0=>H
 | k+1=>y7 (K8 H)
theorem Hp:∀ {k:Nat},(sm bs r k).2.length=19
 | 0=>by simp[sm]
 | k+1=>by simp only[sm,List.length_set];exact Hp
def yJ(bs:List Int)(r:Rd):Rd:=bd (decide ((tk bs 5 r).2+257>286)) (tk bs 5 r).1
def y9(bs:List Int)(r:Rd):Rd:=bd (decide ((tk bs 5 (yJ bs r)).2+1>30)) (tk bs 5 (yJ bs r)).1
def yv(bs:List Int)(r:Rd):Rd×List Int:=sm bs (tk bs 4 (y9 bs r)).1 ((tk bs 4 (y9 bs r)).2.toNat+4)
def jT(bs:List Int)(r:Rd):Rd:=bd (zt (yv bs r).2 != 1) (yv bs r).1
def w7(bs:List Int)(r:Rd):Nat:=((tk bs 5 r).2+257).toNat
def Bd(bs:List Int)(r:Rd):Nat:=((tk bs 5 (yJ bs r)).2+1).toNat
def xi(bs:List Int)(r:Rd):Rd×List Int:=lg bs (zl (yv bs r).2) (w7 bs r+Bd bs r) (jT bs r) []
def FG(A B:List Int):Bool:=(A.getD 256 0==0) || !(zt A==1||zt A==4) || !(zt B==1||zt B==4||zt B==5)
def zN(bs:List Int)(r:Rd):Rd×List Int×List Int:=
 if(xi bs r).1.k=0 then(bd (FG ((xi bs r).2.take (w7 bs r)) ((xi bs r).2.drop (w7 bs r))) (xi bs r).1,(xi bs r).2.take (w7 bs r),(xi bs r).2.drop (w7 bs r))
 else((xi bs r).1,[],[])
theorem WW{bs:List Int}{cs:List (Nat×Nat)}{tot:Nat}:∀ {n:Nat} {r:Rd} {all:List Int},tot-all.length<=n->okR bs r->okR bs (lg bs cs tot r all).1
 | 0,r,all,hn,H=>by rw[yU (fun e=>by omega)];exact H
 | n+1,r,all,hn,H=>by
  by_cases h:r.k=0/\all.length<tot
  ·rw[A9 h];by_cases hk:(lg1 bs cs tot r all).1.k=0
   ·have:=(A8 (bs:=bs) (cs:=cs) (tot:=tot) (r:=r) (all:=all)).2.2 hk;exact WW (n:=n) (by omega) (K7 H)
   ·rw[yU (fun e=>hk e.1)];exact K7 H
  ·rw[yU h];exact H
theorem Fg(H:okR bs r):okR bs (yJ bs r)/\okR bs (y9 bs r)/\okR bs (yv bs r).1/\okR bs (jT bs r)/\okR bs (xi bs r).1:=by
 have h0:okR bs (yJ bs r):=jC (y7 H);have h1:okR bs (y9 bs r):=jC (y7 h0);have h2:okR bs (yv bs r).1:=K8 (y7 h1);have h3:okR bs (jT bs r):=jC h2;exact⟨h0,h1,h2,h3,WW (Nat.le_refl _) h3⟩
theorem K9(hi:qaC S h)(a:Option Addr)(c:Nat)(xs:List Int)(hx:zo h .i64 a xs)(p q s:Int) :
  zb oPP S qJ #[.slice a xs.length c,.int .i64 p,.int .i64 q,.int .i64 s] h (fun v h'=>v=.bool (zt xs==p||zt xs==q||zt xs==s)/\h'=h):=by
 refine Iu (vs:=[.slice a xs.length c,.int .i64 p,.int .i64 q,.int .i64 s]) ⟨rfl,rfl,rfl,rfl,trivial⟩ hi ?_;simp only[DO,Tr.wp,z4,Ex.ev,coerce,toInt_int,za,zc,ze,zd,jA,z9,Cst.val,SV.den,zn,zL,zz,zk,zi,zy,vF,vG,vA,vB,vD,vE,vI,vH,vJ,if_false,vK];refine(AZ hi a c xs hx).mono ?_;rintro _ hq ⟨rfl,rfl⟩;refine⟨_,rfl,?_,rfl⟩;congr 1;cases (zt xs==p) <;> cases (zt xs==q) <;> rfl
theorem Hq(hi:qaC S h):zb oPP S kR #[] h (fun v h'=>∃b T,h b=none/\v=.slice (some ⟨b,0,none⟩) 19 19/\h'=upd h b (.cells (ints .i64 (ord.map Int.ofNat)) T)):=by
 refine Ja (vs:=[]) trivial hi ?_;simp only[EM,Tr.wp,Ex.ev,coerce,zc,ze,zd,Cst.val,SV.den,vA,vD,vE,vH];intro b hb;exact⟨b,_,hb,rfl,rfl⟩
theorem Dy(hi:qaC S h0)(s0:qaB h0 h)(P:Part .i64 h (.slice aa all.length ca) all)(N:qaD h0 (.slice aa all.length ca))(hl:all.length<=1000)(t:Nat)(ht:t<=1000)(w k:Int){G:Value->qaA->Prop}
  (hG:∀a l c h',Part .i64 h' (.slice a l c) (if k=0 then all++List.replicate t w else all)->qaD h0 (.slice a l c)->qaB h0 h'->G (.slice a l c) h') :
  ∃(I:List Value->qaA->Prop) (μ:List Value->qaA->Nat),I [.slice aa all.length ca,.int .i64 0] h /\
   ∀(a_1:Option Addr) (l c_1:Nat) (x_1:Int) (h':qaA),I [.slice a_1 l c_1,.int .i64 x_1] h' ->
    ((decide (x_1<(t:Int))&&k==0)=true->∀(b:Nat),h' b=none ->
     appW S 2 1 8 [.int .i64 0] (.slice a_1 l c_1) (.slice (some ⟨b,0,none⟩) 1 1) (upd h' b (.cells #[.int .i64 w] 2)) fun v h'_1=>
      I [.slice (slA v) (slL v) (slC v),.int .i64 (IntKind.i64.wrap (x_1+1))] h'_1/\μ [.slice (slA v) (slL v) (slC v),.int .i64 (IntKind.i64.wrap (x_1+1))] h'_1<μ [.slice a_1 l c_1,.int .i64 x_1] h') /\
    ((decide (x_1<(t:Int))&&k==0)=false->G (.slice a_1 l c_1) h'):=by
 refine⟨fun us h'=>∃(i:Nat) (a:Option Addr) (c:Nat),us=[.slice a (all.length+i) c,.int .i64 i]/\i<=t/\(k≠0->i=0)/\Part .i64 h' (.slice a (all.length+i) c) (all++List.replicate i w)/\qaD h0 (.slice a (all.length+i) c)/\qaB h0 h',
  fun us _=>t-(toInt (us.getD 1 undef)).toNat,⟨0,aa,ca,by simp,by omega,fun _=>rfl,by simpa using P,by simpa using N,s0⟩,?_⟩
 rintro a1 l1 c1 y h' ⟨i,a2,c2,hx1,hi2,hk0,P2,N2,s2⟩;simp only[List.cons.injEq,Value.int.injEq,Value.slice.injEq,true_and,and_true]at hx1;obtain⟨⟨rfl,rfl,rfl⟩,rfl⟩:=hx1;refine⟨fun hlt b hnb=>?_,fun hge=>?_⟩
 ·have hlt:i<t/\k=0:=by simp at hlt;omega
  have w2:IntKind.i64.wrap ((i:Int)+1)=((i+1:Nat):Int):=zr;have sb:qaB h' (upd h' b (.cells (ints .i64 [w]) 2)):=Sub.zC hnb;have hlen:(all++List.replicate i w).length=all.length+i:=by simp
  refine yA (xs:=all++List.replicate i w) (a:=some ⟨b,0,none⟩) (c:=1) hi (s2.trans sb) (P2.sub sb) N2 (ys:=[w]) zo.new (by rw[hlen];simp only[List.length_singleton];omega) fun v' h3 o n3 s4 _ _=>?_
  have el:(all++List.replicate i w)++[w]=all++List.replicate (i+1) w:=by rw[List.append_assoc,List.replicate_succ']
  rw[el]at o;obtain⟨a4,c4,rfl,_,_⟩:=o.ints;have hlen2:(all++List.replicate (i+1) w).length=all.length+(i+1):=by simp
  rw[hlen2]at o n3;simp only[zd,zc,ze,w2,hlen2];exact⟨⟨i+1,a4,c4,rfl,by omega,fun h=>absurd hlt.2 h,o,n3,s4⟩,by simp only[vB,vA,toInt_int,Int.toNat_natCast];omega⟩
 ·have hge:¬(i<t/\k=0):=by simp at hge;omega
  refine hG _ _ _ _ ?_ N2 s2;by_cases h0:k=0
  ·rw[if_pos h0];obtain rfl:i=t:=by omega
   exact P2
  ·rw[if_neg h0];obtain rfl:=hk0 h0;simpa using P2
theorem Sn(hi:qaC S h0)(s0:qaB h0 h)(hx:zo h0 .u8 a bs)(L:bs.length<=1048576)(r:Rd)(ok:okR bs r)
  (P:Part .i64 h (.slice aa all.length ca) all)(N:qaD h0 (.slice aa all.length ca))(hl:all.length<=1000)(x:Int) :
  zb oPP S AQ #[rdV a c bs r,.slice aa all.length ca,.int .i64 x] h (fun v h'=>∃u,v=.tuple #[rdV a c bs (rp bs r all x).1,u]/\Part .i64 h' u (rp bs r all x).2/\qaD h0 u/\qaB h0 h'):=by
 refine It (vs:=[.slice a bs.length c,.int .i64 r.i,.int .i64 r.k,.slice aa all.length ca,.int .i64 x]) ⟨rfl,rfl,rfl,rfl,rfl,trivial⟩ (hi.sub s0) ?_;simp only[DN,Tr.wp,z4,Ex.ev,coerce,toInt_int,za,zc,ze,zd,zf,zM,xg,z9,arith,Cst.val,SV.den,zn,zL,zz,zk,zi,zy,zV,zq,vF,vG,vA,vB,vC,List.getElem?_cons_succ,decide_eq_true_eq,vD,vE,vI,vH,vJ,List.length_cons,List.length_nil,Nat.zero_add,and_true,if_true,if_false,vK];have hxh:=hx.sub s0;have fin:∀(r':Rd) (t:Nat) (w:Int),rp bs r all x=(r',if r'.k=0 then all++List.replicate t w else all)->∀a' l' c' h',Part .i64 h' (.slice a' l' c') (if r'.k=0 then all++List.replicate t w else all)->qaD h0 (.slice a' l' c')->qaB h0 h' ->
   ∃u,Value.tuple #[rdV a c bs r',.slice a' l' c']=.tuple #[rdV a c bs (rp bs r all x).1,u]/\Part .i64 h' u (rp bs r all x).2/\qaD h0 u/\qaB h0 h':=by
  intro r' t w e a' l' c' h' p n s;rw[e];exact⟨_,rfl,p,n,s⟩
 by_cases h16:x=16
 ·refine⟨fun _=>?_,fun e=>by simp[h16]at e⟩;have eb:((all.length:Int)==0)=(all.length==0):=by
   by_cases h:all.length=0
   ·rw[h];rfl
   ·have:¬(all.length:Int)=0:=by omega
    rw[beq_eq_false_iff_ne.2 this,beq_eq_false_iff_ne.2 h]
  rw[eb];refine(xZ (hi.sub s0) a c bs r (all.length==0)).mono ?_;rintro _ h1 ⟨rfl,rfl⟩;refine⟨_,_,_,_,_,rfl,?_⟩;refine(xD (hi.sub s0) hxh L (bd (all.length==0) r) (jC ok) 2 (by omega)).mono ?_;rintro _ h1 ⟨rfl,rfl⟩;refine⟨_,_,_,_,_,_,rfl,?_⟩;have tn:=yp (bs:=bs) (n:=2) (r:=bd (all.length==0) r);have e2:(2:Int)^2=4:=by decide
  have hrp:rp bs r all x=((tk bs 2 (bd (all.length==0) r)).1,if(tk bs 2 (bd (all.length==0) r)).1.k=0 then all++List.replicate ((tk bs 2 (bd (all.length==0) r)).2+3).toNat (all.getD (all.length-1) 0)else all):=by unfold rp;rw[if_pos h16]
  obtain⟨t,ht⟩:=Int.eq_ofNat_of_zero_le tn.1;have wt:IntKind.i64.wrap ((tk bs 2 (bd (all.length==0) r)).2+3)=((t+3:Nat):Int):=by rw[ht,i64_in _ (by omega)];omega
  have et:((tk bs 2 (bd (all.length==0) r)).2+3).toNat=t+3:=by omega
  rw[et]at hrp;have h17:x≠17:=by omega
  have h18:x≠18:=by omega
  refine⟨fun hk=>?_,fun hk=>fun _ _=>⟨fun e=>absurd (beq_iff_eq.1 e) h17,fun _ _=>⟨fun e=>absurd (beq_iff_eq.1 e) h18,fun _ _=>?_⟩⟩⟩
  ·have hk:(tk bs 2 (bd (all.length==0) r)).1.k=0:=beq_iff_eq.1 hk;have hne:all.length≠0:=by have:=(Hn.1 (OX hk)).2;simpa using this
   have wl:IntKind.i64.wrap ((all.length:Int)-1)=((all.length-1:Nat):Int):=zr;have hlt:all.length-1<all.length:=by omega
   obtain⟨_,_,ei,_,gi⟩:=P.ints;cases ei
   obtain⟨g1,g2⟩:=gi.cell (List.getElem?_eq_getElem hlt);rw[wl];refine⟨by simpa using g2,by omega,by omega,all[all.length-1],by simp only[Int.toNat_natCast,Nat.mul_one,add_add,Nat.add_zero];exact g1,fun _ _=>⟨fun e=>absurd (beq_iff_eq.1 e) h17,fun _ _=>⟨fun e=>absurd (beq_iff_eq.1 e) h18,fun _ _=>?_⟩⟩⟩;rw[wt];have eg:all.getD (all.length-1) 0=all[all.length-1]:=by simp[List.getD,List.getElem?_eq_getElem hlt]
   rw[eg]at hrp;exact Dy hi s0 P N hl (t+3) (by omega) all[all.length-1] (tk bs 2 (bd (all.length==0) r)).1.k (G:=fun v h'=>∃u,Value.tuple #[rdV a c bs (tk bs 2 (bd (all.length==0) r)).1,v]=.tuple #[rdV a c bs (rp bs r all x).1,u]/\Part .i64 h' u (rp bs r all x).2/\qaD h0 u/\qaB h0 h') (fin (tk bs 2 (bd (all.length==0) r)).1 (t+3) all[all.length-1] hrp)
  ·have hk:(tk bs 2 (bd (all.length==0) r)).1.k≠0:=fun e=>by simp[e]at hk
   rw[wt];have hrp2:rp bs r all x=((tk bs 2 (bd (all.length==0) r)).1,if(tk bs 2 (bd (all.length==0) r)).1.k=0 then all++List.replicate (t+3) x else all):=by rw[hrp,if_neg hk,if_neg hk]
   exact Dy hi s0 P N hl (t+3) (by omega) x (tk bs 2 (bd (all.length==0) r)).1.k (G:=fun v h'=>∃u,Value.tuple #[rdV a c bs (tk bs 2 (bd (all.length==0) r)).1,v]=.tuple #[rdV a c bs (rp bs r all x).1,u]/\Part .i64 h' u (rp bs r all x).2/\qaD h0 u/\qaB h0 h') (fin (tk bs 2 (bd (all.length==0) r)).1 (t+3) x hrp2)
 by_cases h17:x=17
 ·refine⟨fun e=>absurd (beq_iff_eq.1 e) h16,fun _ _=>⟨fun _=>?_,fun e=>by simp[h17]at e⟩⟩;refine(xD (hi.sub s0) hxh L r ok 3 (by omega)).mono ?_;rintro _ h1 ⟨rfl,rfl⟩;have tn:=yp (bs:=bs) (n:=3) (r:=r);have e2:(2:Int)^3=8:=by decide
  have hrp:rp bs r all x=((tk bs 3 r).1,if(tk bs 3 r).1.k=0 then all++List.replicate ((tk bs 3 r).2+3).toNat 0 else all):=by unfold rp;rw[if_neg h16,if_pos h17]
  obtain⟨t,ht⟩:=Int.eq_ofNat_of_zero_le tn.1;have wt:IntKind.i64.wrap ((tk bs 3 r).2+3)=((t+3:Nat):Int):=by rw[ht,i64_in _ (by omega)];omega
  have et:((tk bs 3 r).2+3).toNat=t+3:=by omega
  rw[et]at hrp;refine⟨_,_,_,_,_,_,rfl,fun _=>⟨fun e=>absurd (beq_iff_eq.1 e) (by omega),fun _ _=>?_⟩⟩;rw[wt];exact Dy hi s0 P N hl (t+3) (by omega) 0 (tk bs 3 r).1.k (G:=fun v h'=>∃u,Value.tuple #[rdV a c bs (tk bs 3 r).1,v]=.tuple #[rdV a c bs (rp bs r all x).1,u]/\Part .i64 h' u (rp bs r all x).2/\qaD h0 u/\qaB h0 h') (fin (tk bs 3 r).1 (t+3) 0 hrp)
 by_cases h18:x=18
 ·refine⟨fun e=>absurd (beq_iff_eq.1 e) h16,fun _ _=>⟨fun e=>absurd (beq_iff_eq.1 e) h17,fun _ _=>⟨fun _=>?_,fun e=>by simp[h18]at e⟩⟩⟩;refine(xD (hi.sub s0) hxh L r ok 7 (by omega)).mono ?_;rintro _ h1 ⟨rfl,rfl⟩;have tn:=yp (bs:=bs) (n:=7) (r:=r);have e2:(2:Int)^7=128:=by decide
  have hrp:rp bs r all x=((tk bs 7 r).1,if(tk bs 7 r).1.k=0 then all++List.replicate ((tk bs 7 r).2+11).toNat 0 else all):=by unfold rp;rw[if_neg h16,if_neg h17,if_pos h18]
  obtain⟨t,ht⟩:=Int.eq_ofNat_of_zero_le tn.1;have wt:IntKind.i64.wrap ((tk bs 7 r).2+11)=((t+11:Nat):Int):=by rw[ht,i64_in _ (by omega)];omega
  have et:((tk bs 7 r).2+11).toNat=t+11:=by omega
  rw[et]at hrp;refine⟨_,_,_,_,_,_,rfl,fun _=>?_⟩;rw[wt];exact Dy hi s0 P N hl (t+11) (by omega) 0 (tk bs 7 r).1.k (G:=fun v h'=>∃u,Value.tuple #[rdV a c bs (tk bs 7 r).1,v]=.tuple #[rdV a c bs (rp bs r all x).1,u]/\Part .i64 h' u (rp bs r all x).2/\qaD h0 u/\qaB h0 h') (fin (tk bs 7 r).1 (t+11) 0 hrp)
 refine⟨fun e=>absurd (beq_iff_eq.1 e) h16,fun _ _=>⟨fun e=>absurd (beq_iff_eq.1 e) h17,fun _ _=>⟨fun e=>absurd (beq_iff_eq.1 e) h18,fun _ _=>?_⟩⟩⟩;refine Dy hi s0 P N hl 1 (by omega) x r.k (G:=fun v h'=>∃u,Value.tuple #[rdV a c bs r,v]=.tuple #[rdV a c bs (rp bs r all x).1,u]/\Part .i64 h' u (rp bs r all x).2/\qaD h0 u/\qaB h0 h') (fin r 1 x ?_);unfold rp;rw[if_neg h16,if_neg h17,if_neg h18];rfl
end
variable {B:Nat}
section
abbrev tCl:TypeId:=85
abbrev tPC:TypeId:=87
abbrev tRt:TypeId:=159
abbrev tEr:TypeId:=48
def hdl(t:TypeId):Value:=.pointer (some ⟨6,t,none⟩)
def rty(t:TypeId):Value:=.iface tRt (.agg #[hdl t])
section
variable {w:World}{K:Next -> World -> Prop}
theorem XI(t:Addr):xn oPP S h B (callFunc xh #[.iface tPC (.pointer (some t))]) [] w K =
  (True/\K (.value (.agg #[hdl tPC,.pointer (some ⟨w.heap.size,0,none⟩),.int .u64 150])) { w with heap:=w.heap.push (.cells #[.pointer (some t)] tPC) }):=by kernel_rfl
theorem XJ(k:Int):xn oPP S h B (callFunc xh #[.iface tCl (.agg #[.int .i64 k])]) [] w K =
  (True/\K (.value (.agg #[hdl tCl,.pointer (some ⟨w.heap.size,0,none⟩),.int .u64 153])) { w with heap:=w.heap.push (.cells #[.int .i64 k] tCl) }):=by kernel_rfl
theorem Zd(a:Addr):xn oPP S h B (callFunc jk #[.agg #[hdl tPC,.pointer (some a),.int .u64 150]]) [] w K=(True/\K (.value (rty tPC)) w):=by kernel_rfl
theorem Uc(t:Nat):wV oPP (method (oPP.types.size+Made.depth) tRt (.agg #[hdl t]) "Kind")=some (jg,hdl t):=by kernel_rfl
theorem Ze(t:Nat):wV oPP (method (oPP.types.size+Made.depth) tRt (.agg #[hdl t]) "Elem")=some (jq,.agg #[hdl t]):=by kernel_rfl
theorem Zf(t:Nat):wV oPP (method (oPP.types.size+Made.depth) tRt (.agg #[hdl t]) "Implements")=some (xI,.agg #[hdl t]):=by kernel_rfl
theorem Zg(t:Nat):wV oPP (method (oPP.types.size+Made.depth) tRt (.agg #[hdl t]) "AssignableTo")=some (xB,.agg #[hdl t]):=by kernel_rfl
theorem XK:xn oPP S h B (callFunc jg #[hdl tPC]) [] w K=(True/\K (.value (.int .u8 22)) w):=by kernel_rfl
theorem XL:xn oPP S h B (callFunc jg #[hdl tCl]) [] w K=(True/\K (.value (.int .u8 25)) w):=by kernel_rfl
theorem Zh:xn oPP S h B (callFunc jq #[.agg #[hdl tPC]]) [] w K=(True/\K (.value (rty tCl)) w):=by kernel_rfl
theorem Zi:xn oPP S h B (callFunc xI #[.agg #[hdl tCl],rty tEr]) [] w K=(True/\K (.value (.bool true)) w):=by kernel_rfl
theorem VS(v:Value):xn oPP S h B (callFunc kD #[.iface tCl v]) [] w K=(True/\K (.value (rty tCl)) w):=by kernel_rfl
theorem Zj:xn oPP S h B (callFunc xB #[.agg #[hdl tCl],rty tCl]) [] w K=(True/\K (.value (.bool true)) w):=by kernel_rfl
theorem XM(a p:Addr):xn oPP S h B (callFunc jf #[.agg #[hdl tPC,.pointer (some a),.int .u64 150]]) [.pointer (some p)] w K =
  (True/\Mode.plain=.plain/\(h a.block≠none\/B<=a.block)/\w.cell? a=some (.pointer (some p))/\K (.value (.bool false)) w):=by kernel_rfl
theorem XN(a p:Addr):xn oPP S h B (callFunc jo #[.agg #[hdl tPC,.pointer (some a),.int .u64 150]]) [.pointer (some p)] w K =
  (True/\Mode.plain=.plain/\(h a.block≠none\/B<=a.block)/\w.cell? a=some (.pointer (some p))/\K (.value (.agg #[hdl tCl,.pointer (some p),.int .u64 409])) w):=by kernel_rfl
theorem zan(t b:Addr)(k:Int):xn oPP S h B (callFunc j3 #[.agg #[hdl tCl,.pointer (some t),.int .u64 409],.agg #[hdl tCl,.pointer (some b),.int .u64 153]]) [.int .i64 k] w K =
  (True/\Mode.plain=.plain/\(h b.block≠none\/B<=b.block)/\w.cell? b=some (.int .i64 k) /\
   Mode.plain=.plain/\(h t.block≠none\/B<=t.block)/\¬S t.block/\(∃u,w.cell? t=some u)/\w.frozen? t=false/\(Value.int .i64 k).cells=#[.int .i64 k]/\(∀x,Value.int .i64 k ≠ .tuple x)/\(∀x,Value.int .i64 k ≠ .agg x) /\
   K (.value (.tuple #[])) (w.setCell t (.int .i64 k))):=by kernel_rfl
end
end
variable {t:Nat}
section
section
def Cv(h:qaA):Prop:=zj h ⟨4,0,none⟩=some (rty tEr)
theorem Cv.sub(H:Cv h)(s:qaB h h'):Cv h':=xF s H
theorem Qx(hi:qaC S h){k old:Int}{t a:Nat}(ht:h t=some (.cells #[.int .i64 old] tCl))(hs:¬S t)(ha:zj h ⟨a,0,none⟩=some (.pointer (some ⟨t,0,none⟩))) :
  zb oPP S Ey #[.iface tCl (.agg #[.int .i64 k]),.iface tPC (.pointer (some ⟨t,0,none⟩)),.agg #[hdl tPC,.pointer (some ⟨a,0,none⟩),.int .u64 150],rty tCl] h
   (fun v h'=>v=.bool true/\h' t=some (.cells #[.int .i64 k] tCl)/\∀y,y≠t->h y≠none->h' y=h y):=by
 refine Nz (vs:=[.iface tCl (.agg #[.int .i64 k]),.iface tPC (.pointer (some ⟨t,0,none⟩)),hdl tPC,.pointer (some ⟨a,0,none⟩),.int .u64 150,rty tCl]) ⟨rfl,rfl,rfl,rfl,rfl,rfl,trivial⟩ hi ?_;simp only[IG,Tr.wp,z4,Ex.ev,coerce,toInt_int,za,zx,Cst.val,SV.den,zn,zL,zz,zk,zi,zy,zV,vF,vG,vA,vB,vD,vE,vI,vH,vJ,Nat.zero_add,true_and,if_true,if_false,vK];refine⟨fun us h'=>us=[]/\h'=h,fun _ _=>0,⟨rfl,rfl⟩,?_⟩;rintro h' ⟨_,rfl⟩;refine(F9 hi (fun w K=>VS _)).mono ?_;rintro _ h1 ⟨rfl,rfl⟩;refine⟨rty tCl,rfl,rfl,_,_,_,_,rfl,Zg tCl,?_⟩;refine(F9 hi (fun w K=>Zj)).mono ?_;rintro _ h1 ⟨rfl,rfl⟩;refine⟨_,rfl,fun _=>?_,fun hne=>by simp at hne⟩;refine(MP hi ha (fun w K=>XN ⟨a,0,none⟩ ⟨t,0,none⟩)).mono ?_;rintro _ h1 ⟨rfl,rfl⟩;refine⟨_,_,_,rfl,?_⟩;refine(OQ hi (x:=fun b=>.agg #[hdl tCl,.pointer (some ⟨b,0,none⟩),.int .u64 153]) (fun w K=>XJ k)).mono ?_;rintro _ h2 ⟨b,hb,rfl,rfl⟩;refine⟨_,_,_,rfl,?_⟩;have hbt:t≠b:=fun e=>by rw[e,hb]at ht;cases ht
 refine(VC (t:=t) (b:=b) (k:=.i64) (n:=k) hi.upd (by simp[zj,upd]) (by rw[upd_ne hbt];exact ht) hs (fun w K=>zan ⟨t,0,none⟩ ⟨b,0,none⟩ k)).mono ?_;rintro _ h3 ⟨rfl,rfl⟩;refine⟨by simp,upd_same,fun y hy hn=>?_⟩;have hyb:y≠b:=fun e=>hn (by rw[e];exact hb)
 rw[upd_ne hy,upd_ne hyb]
theorem Qy(hi:qaC S h){k old:Int}(hE:Cv h)(ht:h t=some (.cells #[.int .i64 old] tCl))(hs:¬S t) :
  zb oPP S Ew #[.iface tCl (.agg #[.int .i64 k]),.iface tPC (.pointer (some ⟨t,0,none⟩))] h
   (fun v h'=>v=.bool true/\h' t=some (.cells #[.int .i64 k] tCl)/\∀y,y≠t->h y≠none->h' y=h y):=by
 refine Ny (vs:=[.iface tCl (.agg #[.int .i64 k]),.iface tPC (.pointer (some ⟨t,0,none⟩))]) ⟨rfl,rfl,trivial⟩ hi ?_;simp only[IF,Tr.wp,z4,Ex.ev,coerce,toInt_int,za,zf,zx,z9,Cst.val,SV.den,zn,zL,zz,zk,zi,zy,zq,vF,vG,vA,vB,vC,List.getElem?_cons_succ,vD,vE,vI,vH,vJ,Nat.zero_add,and_true,if_false,vK];refine⟨fun hne=>by simp[kv,x7]at hne,fun _=>⟨fun hne=>by simp[kv,x7]at hne,fun _=>?_⟩⟩;refine(OQ hi (x:=fun b=>.agg #[hdl tPC,.pointer (some ⟨b,0,none⟩),.int .u64 150]) (fun w K=>XI ⟨t,0,none⟩)).mono ?_;rintro _ h2 ⟨a,ha,rfl,rfl⟩;have hat:t≠a:=fun e=>by rw[e,ha]at ht;cases ht
 have i2:qaC S (upd h a (.cells #[.pointer (some ⟨t,0,none⟩)] tPC)):=hi.upd;have ca:zj (upd h a (.cells #[.pointer (some ⟨t,0,none⟩)] tPC)) ⟨a,0,none⟩=some (.pointer (some ⟨t,0,none⟩)):=by simp[zj,upd]
 have sa:qaB h (upd h a (.cells #[.pointer (some ⟨t,0,none⟩)] tPC)):=Sub.zC ha;refine⟨_,_,_,rfl,?_⟩;refine(F9 i2 (fun w K=>Zd ⟨a,0,none⟩)).mono ?_;rintro _ h3 ⟨rfl,rfl⟩;refine⟨rty tPC,rfl,rfl,_,_,_,_,rfl,Uc tPC,?_⟩;refine(F9 i2 (fun w K=>XK)).mono ?_;rintro _ h3 ⟨rfl,rfl⟩;refine⟨_,rfl,fun _=>?_,fun hne=>by simp at hne⟩;refine(MP i2 ca (fun w K=>XM ⟨a,0,none⟩ ⟨t,0,none⟩)).mono ?_;rintro _ h3 ⟨rfl,rfl⟩;refine⟨_,rfl,fun _=>⟨fun hne=>by simp at hne,fun _=>?_⟩⟩;refine⟨_,_,_,_,rfl,Ze tPC,?_⟩;refine(F9 i2 (fun w K=>Zh)).mono ?_;rintro _ h3 ⟨rfl,rfl⟩;refine⟨rty tCl,rfl,rfl,_,_,_,_,rfl,Uc tCl,?_⟩;refine(F9 i2 (fun w K=>XL)).mono ?_;rintro _ h3 ⟨rfl,rfl⟩;refine⟨_,rfl,fun _=>?_,fun hne=>by simp at hne⟩;refine⟨rty tEr,rfl,hE.sub sa,_,_,_,_,rfl,Zf tCl,?_⟩;refine(F9 i2 (fun w K=>Zi)).mono ?_;rintro _ h3 ⟨rfl,rfl⟩;refine⟨_,rfl,fun _=>⟨fun hne=>by simp at hne,fun _=>?_⟩⟩;refine(Qx i2 (k:=k) (by rw[upd_ne hat];exact ht) hs ca).mono ?_;rintro _ h4 ⟨rfl,e1,e2⟩;refine⟨_,rfl,rfl,e1,fun y hy hn=>?_⟩;have hya:y≠a:=fun e=>hn (by rw[e];exact ha)
 rw[e2 y hy (by rw[upd_ne hya];exact hn),upd_ne hya]
theorem MT(hi:qaC S h){k:Int}(hE:Cv h) :
  zb oPP S wJ #[.iface tCl (.agg #[.int .i64 k])] h (fun v h'=>v=.int .i64 k/\qaB h h'):=by
 refine Jc (vs:=[.iface tCl (.agg #[.int .i64 k])]) ⟨rfl,trivial⟩ hi ?_;simp only[EO,Tr.wp,z4,Ex.ev,coerce,toInt_int,za,zf,Cst.val,SV.den,zn,zL,zz,zk,zi,yF,zy,zq,vF,vG,List.replicate_one,vA,vB,vD,vE,vI,vH,vJ,and_true,if_false,vK];intro b hb;have hsb:=JU hi hb;have sb:∀o,qaB h (upd h b o):=fun o=>Sub.zC hb
 refine sto1' (u:=.int .i64 0) (T:=tCl) upd_same hsb ?_;rw[xw];refine(Qy hi.upd (hE.sub (sb _)) upd_same hsb).mono ?_;rintro _ h4 ⟨rfl,e1,e2⟩;refine⟨_,rfl,k,by rw[zu,zu];simp[zj,e1],rfl,fun y o hy=>?_⟩;have hyb:y≠b:=fun e=>by rw[e,hb]at hy;cases hy
 rw[e2 y hyb (by rw[upd_ne hyb,hy];simp),upd_ne hyb];exact hy
end
end
variable {bt q:Nat}
section
def ql(T:List (Nat×Nat)):List (Int×Int):=T.map fun e=>((e.1:Int),(e.2:Int))
theorem MU{T:List (Nat×Nat)}:(ql T).length=T.length:=by simp[ql]
theorem Hr{T:List (Nat×Nat)}(h:T[k]? = some (s,q)):(ql T)[k]? = some ((s:Int),(q:Int)):=by simp[ql,h]
theorem MV{T:List (Nat×Nat)}:(ql T).set k ((s:Int),(q:Int))=ql (T.set k (s,q)):=by simp[ql,List.map_set]
theorem Ud{T:List (Nat×Nat)}:ql T++[(0,0),(0,0)]=ql (T++[(0,0),(0,0)]):=by simp[ql]
structure TabV(h0 h:qaA)(bt:Nat)(T P:List (Nat×Nat))(a:Option Addr)(c:Nat)(E:Nat->Nat->Prop)(Y:Nat->Nat->Nat):Prop where
 hb:∃TT,h bt=some (.cells #[.slice a T.length c] TT)
 ow:qU h (.slice a T.length c) (ql T)
 nw:qaD h0 (.slice a T.length c)
 nb:h0 bt=none
 ne:zh (.slice a T.length c)≠some bt
 ti:TI E Y T P
 sb:qaB h0 h
variable {T P:List (Nat × Nat)}{E:Nat -> Nat -> Prop}{Y:Nat -> Nat -> Nat}
theorem TabV.ld(H:TabV h0 h bt T P a c E Y):zj h ⟨bt,0,none⟩=some (.slice a T.length c):=by
 obtain⟨TT,hb⟩:=H.hb;simp[zj,hb]
theorem TabV.cell(H:TabV h0 h bt T P a c E Y)(hk:T[k]? = some (s,q)):zj h ((a.getD default).add (k*2))=some (.int .i64 s)/\zj h ((a.getD default).add (k*2+1))=some (.int .i64 q)/\a.isSome=true:=by
 obtain⟨a',c',e,_,hx⟩:=H.ow.yP;simp only[Value.slice.injEq]at e;rw[e.1];exact hx.cell (Hr hk)
def Be(cs:List (Nat×Nat))(m B i:Nat):Nat->Nat->Prop:=fun l v=>Em cs m l v\/(l<i/\v=B%2^l)
theorem VT:∀l v,v<2^(l+1)->Be cs m B i (l+1) v->Be cs m B i l (v%2^l):=by
 rintro l v _ (h | ⟨h1,rfl⟩)
 ·exact .inl (zah h)
 ·exact .inr ⟨by omega,QU (by omega)⟩
theorem VU:∀l v,v<2^(l+1)->Ym cs m (l+1) v≠0->Be cs m B i l (v%2^l):=fun l v _ h=>.inl (zai h)
theorem Pa:B%2^(i+1)=B%2^i+2^i*(B/2^i%2):=by rw[Nat.pow_succ,Nat.mod_mul]
theorem Cd(hi:qaC S h)(a0:Option Addr)(c0:Nat)(xs:List Int)(O:tI.O h (.slice a0 xs.length c0) xs)(L:Hk xs)(hg:¬(zt xs=0\/zt xs=2)) :
  zb oPP S xX #[.slice a0 xs.length c0] h (fun v h'=>∃bt T P a c,v=.pointer (some ⟨bt,0,none⟩)/\TabV h h' bt T P a c (Em (zl xs) xs.length) (Ym (zl xs) xs.length)/\T.length<=20000):=by
 obtain⟨hlen,hok⟩:=we hg;refine Jb (vs:=[.slice a0 xs.length c0]) ⟨rfl,trivial⟩ hi ?_;simp only[EN,Tr.wp,Fx,z4,Ex.ev,coerce,toInt_int,za,zc,ze,zd,zf,zM,z9,arith,Cst.val,SV.den,zn,zL,zz,zk,zi,yF,zy,zV,zq,vF,vG,List.replicate_one,vA,vB,vC,List.getElem?_cons_succ,decide_eq_true_eq,decide_eq_false_iff_not,vD,vE,vI,vH,vJ,Nat.zero_add,and_true,if_false,vK];have w1:IntKind.i64.wrap 1=1:=i64_in _ (by omega);have e0:yl ((1:Int).toNat*2) #[Value.int IntKind.i64 0,Value.int IntKind.i64 0]=xm [(0,0)]:=MN 1;have e1:(1:Int).toNat=1:=rfl;rw[w1,e0,e1];refine⟨by omega,by omega,by omega,fun b0 hb0 bt hbt=>?_⟩;obtain⟨h1,hh1⟩:∃h1,h1=upd h b0 (.cells (xm [(0,0)]) 154):=⟨_,rfl⟩;rw[<-hh1]at hbt ⊢;have s1:qaB h h1:=by rw[hh1];exact Sub.zC hb0
 have hbt0:=ya s1 hbt;have hne0:b0≠bt:=fun e=>by rw[hh1,<-e,upd_same]at hbt;cases hbt
 obtain⟨h2,hh2⟩:∃h2,h2=upd h1 bt (.cells #[.slice (some ⟨b0,0,none⟩) 1 1] 152):=⟨_,rfl⟩;rw[<-hh2];have s2:qaB h h2:=by rw[hh2];exact s1.trans (Sub.zC hbt)
 have hb2t:h2 bt=some (.cells #[.slice (some ⟨b0,0,none⟩) 1 1] 152):=by rw[hh2,upd_same]
 have hb20:h2 b0=some (.cells (xm [(0,0)]) 154):=by rw[hh2,upd_ne hne0,hh1,upd_same]
 obtain⟨cs,hcs⟩:∃cs,cs=zl xs:=⟨_,rfl⟩;have hcl:cs.length=xs.length:=by rw[hcs,xA]
 rw[<-hcs];refine(Jl (hi.sub s2) (Ty.kN O s2) L).mono ?_;rintro cv h3 ⟨OC,NC,s3⟩;simp only[y8,if_neg hg]at OC;obtain⟨ac,cc,rfl⟩:=VI (Cc.OR OC);rw[kC]at OC NC ⊢;have OC:xp h3 (.slice ac xs.length cc) (yZ xs):=OC;have NC:∀y,zh (.slice ac xs.length cc)=some y->h2 y=none:=NC;have hcbt:zh (.slice ac xs.length cc)≠some bt:=fun e=>by have:=NC bt e;rw[hb2t]at this;cases this
 refine⟨_,_,_,rfl,?_⟩;refine⟨fun us h'=>∃(m:Nat) (T P:List (Nat×Nat)) (a:Option Addr) (c:Nat),us=[.int .i64 m]/\m<=xs.length/\TabV h h' bt T P a c (Em cs m) (Ym cs m)/\T.length<=1+30*m/\xp h' (.slice ac xs.length cc) (yZ xs)/\(∀y,zh (.slice ac xs.length cc)=some y->zh (.slice a T.length c)≠some y),
  fun us _=>xs.length-(toInt (us.getD 0 undef)).toNat,⟨0,[(0,0)],[(0,0)],some ⟨b0,0,none⟩,1,rfl,by omega,?_,by simp,OC,?_⟩,?_⟩
 ·refine⟨⟨_,s3 bt _ hb2t⟩,⟨b0,[],_,rfl,s3 b0 _ hb20⟩,New.of hb0,hbt0,fun e=>hne0 (by cases e;rfl),?_,s2.trans s3⟩;exact TI.start.congr (fun l v _=>⟨fun h=>h.elim,fun⟨s,_,h,_⟩=>by omega⟩) (fun _ _ _=>rfl)
 ·intro y hy e;cases e
  have:=NC b0 hy;rw[hb20]at this;cases this
 rintro x h' ⟨m,T,P,a,c,hx1,hm,TV,hTl,OC1,dis⟩;obtain rfl:x=m:=by simpa using hx1
 refine⟨fun hlt=>?_,fun hge=>?_⟩
 ·have hm3:m<xs.length:=by omega
  have hp:=E8 (xs:=xs) hm3;obtain⟨Lm,B,hpe,hcm,hL15,hBl⟩:=Bc hok hp;rw[<-hcs]at hcm;rw[hpe]at hp;obtain⟨a9,c9,e9,_,hx9⟩:=OC1.yP;simp only[Value.slice.injEq]at e9;obtain⟨rfl,_,rfl⟩:=e9;obtain⟨g1,g2,g3⟩:=hx9.cell hp;have w2:IntKind.i64.wrap ((m:Int)+1)=((m+1:Nat):Int):=zr;refine⟨by simpa using g3,by omega,hlt,(Lm:Int),(B:Int),⟨by simpa[add_add]using g1,by simpa[add_add]using g2⟩,fun hz=>?_,fun hnz=>?_⟩
  ·have hz:Lm=0:=by have:(Lm:Int)=0:=beq_iff_eq.1 hz;omega
   subst hz;rw[w2];refine⟨⟨m+1,T,P,a,c,rfl,by omega,⟨TV.hb,TV.ow,TV.nw,TV.nb,TV.ne,?_,TV.sb⟩,by omega,OC1,dis⟩,by simp only[vA,toInt_int];omega⟩;refine TV.ti.congr (fun l v _=>?_) (fun l v _=>?_)
   ·rw[Ff hcm];exact⟨.inl,fun h=>h.elim id fun h=>by omega⟩
   ·rw[Ym,if_neg (fun h=>?_)];rw[hcm]at h;simp only[Option.some.injEq,Prod.mk.injEq]at h;omega
  have hLm:0<Lm:=by
   rcases Nat.eq_zero_or_pos Lm with h | h
   ·subst h;simp at hnz
   ·exact h
  refine⟨fun us h'=>∃(at_ i:Nat) (T P:List (Nat×Nat)) (a:Option Addr) (c:Nat),us=[.int .i64 at_,.int .i64 i]/\i<=Lm/\P[at_]? = some (i,B%2^i)/\TabV h h' bt T P a c (Be cs m B i) (Ym cs m)/\T.length<=1+30*m+2*i/\xp h' (.slice ac xs.length cc) (yZ xs)/\(∀y,zh (.slice ac xs.length cc)=some y->zh (.slice a T.length c)≠some y),
   fun us _=>Lm-(toInt (us.getD 1 undef)).toNat,⟨0,0,T,P,a,c,rfl,by omega,by rw[TV.ti.root];simp[Nat.mod_one],⟨TV.hb,TV.ow,TV.nw,TV.nb,TV.ne,TV.ti.congr (fun l v _=>⟨.inl,fun h=>h.elim id fun h=>by omega⟩) (fun _ _ _=>rfl),TV.sb⟩,by omega,OC1,dis⟩,?_⟩
  clear TV hTl OC1 dis hx9 g1 g2 g3;rintro x y h' ⟨at_,i,T,P,a,c,hx2,hi2,hP,TV,hTl,OC1,dis⟩;obtain⟨rfl,rfl⟩:x=at_/\y=i:=by simpa using hx2
  obtain⟨s,q,hT⟩:=TV.ti.get hP;have hkT:=(List.getElem?_eq_some_iff.1 hT).1;obtain⟨g1,g2,g3⟩:=TV.cell hT;refine⟨fun hlt=>?_,fun hge=>?_⟩
  ·refine⟨_,_,_,by simpa[zu]using TV.ld,by simpa using g3,by omega,by omega,(q:Int),by simpa[add_add]using g2,?_⟩;have wi:IntKind.i64.wrap ((i:Int)+1)=((i+1:Nat):Int):=zr;have hbit:IntKind.i64.wrap (Go.bits .and .u64 ((B:Int).fdiv (2^min (i:Int).toNat IntKind.u64.bits)) 1)=((B/2^i%2:Nat):Int):=by
    have m1:min (i:Int).toNat IntKind.u64.bits=i:=by
     have:IntKind.u64.bits=64:=rfl;rw[this];omega
    have hp:(0:Int)<2^i:=Int.pow_pos (by decide);have e:(B:Int).fdiv (2^i)%2=((B/2^i%2:Nat):Int):=by
     rw[Int.fdiv_eq_ediv_of_nonneg _ (Int.le_of_lt hp)];push_cast;rfl
    rw[m1,OK,e];exact i64_in _ (by omega)
   rw[wi,hbit];have adv:∀ {h':qaA} {T P:List (Nat×Nat)} {a:Option Addr} {c s q:Nat},T[at_]? = some (s,q)->P[at_]? = some (i,B%2^i)->TabV h h' bt T P a c (Be cs m B (i+1)) (Ym cs m)->T.length<=1+30*m+2*(i+1)->xp h' (.slice ac xs.length cc) (yZ xs)->(∀y,zh (.slice ac xs.length cc)=some y->zh (.slice a T.length c)≠some y) ->
     ∃(at' i':Nat) (T P:List (Nat×Nat)) (a:Option Addr) (c:Nat),([Value.int .i64 (IntKind.i64.wrap ((q:Int)+((B/2^i%2:Nat):Int))),Value.int .i64 ((i+1:Nat):Int)]:List Value)=[.int .i64 at',.int .i64 i']/\i'<=Lm/\P[at']? = some (i',B%2^i')/\TabV h h' bt T P a c (Be cs m B i') (Ym cs m)/\T.length<=1+30*m+2*i'/\xp h' (.slice ac xs.length cc) (yZ xs)/\(∀y,zh (.slice ac xs.length cc)=some y->zh (.slice a T.length c)≠some y):=by
    intro h' T P a c s q hT hP TV hl OC dis;have hq:q≠0:=(TV.ti.ext hT hP).2 (.inr ⟨by omega,rfl⟩);obtain⟨k0,k1⟩:=TV.ti.kid hT hP hq;have hk0:=(List.getElem?_eq_some_iff.1 k0).1;rw[TV.ti.len]at hk0;have hbb:B/2^i%2=0\/B/2^i%2=1:=by omega
    refine⟨q+B/2^i%2,i+1,T,P,a,c,by rw[i64_in _ (by omega)];rfl,by omega,?_,TV,hl,OC,dis⟩;rw[Pa];rcases hbb with h | h <;> rw[h]
    ·simpa using k0
    ·simpa using k1
   have hnb:∀b,zh (.slice a T.length c)=some b->¬S b:=fun b hb hs=>hi b hs (TV.nw b hb)
   refine⟨fun hq0=>?_,fun hqn _=>?_⟩
   ·have hq0:q=0:=by have:(q:Int)=0:=beq_iff_eq.1 hq0;omega
    subst hq0;have hT':(ql T)[at_]? = some ((s:Int),(((0:Nat):Int))):=Hr hT;obtain⟨ok4,ow4,fr4⟩:=TV.ow.VB hnb hT' (T.length:Int);rw[MV]at ow4;refine⟨_,_,_,by simpa[zu]using TV.ld,_,_,_,by simpa[zu]using TV.ld,by simpa using g3,by omega,by omega,?_⟩;simp only[yk,Int.toNat_natCast];refine⟨ok4,?_⟩;obtain⟨h4,hh4⟩:∃h4,h4=zQ h' ((((a.getD default).add (at_*2)).add 1).add 0) (.int .i64 T.length):=⟨_,rfl⟩;obtain⟨TT,hbt'⟩:=TV.hb;have f4:∀w,zh (.slice a T.length c)≠some w->h4 w=h' w:=fun w hw=>by rw[hh4];exact fr4 w hw
    rw[<-hh4]at ow4 ⊢;have hb4:h4 bt=some (.cells #[.slice a T.length c] TT):=by rw[f4 bt TV.ne];exact hbt'
    have sb4:qaB h h4:=fun y o hy=>by rw[f4 y (fun e=>by rw[TV.nw y e]at hy;cases hy)];exact TV.sb y o hy
    have OC4:xp h4 (.slice ac xs.length cc) (yZ xs):=OC1.keep fun y hy=>f4 y (dis y hy)
    refine⟨a,T.length,c,by simp[zu,zj,hb4],fun b hb=>?_⟩;have eb:(Obj.cells #[Value.int IntKind.i64 0,Value.int IntKind.i64 0,Value.int IntKind.i64 0,Value.int IntKind.i64 0] 154)=.cells (xm [(0,0),(0,0)]) 154:=rfl;rw[eb];have s5:qaB h4 (upd h4 b (.cells (xm [(0,0),(0,0)]) 154)):=Sub.zC hb;have hnT:(ql (T.set at_ (s,T.length))).length=T.length:=by rw[MU,List.length_set]
    have ow5:qU (upd h4 b (.cells (xm [(0,0),(0,0)]) 154)) (.slice a T.length c) (ql (T.set at_ (s,T.length))):=ow4.keep fun z hz=>upd_ne fun e=>ow4.held z hz (e▸hb)
    refine TG hi (sb4.trans s5) ow5 TV.nw (qs:=[(0,0),(0,0)]) (qT.of (sp:=[]) upd_same) (by rw[hnT];simp only[List.length_cons,List.length_nil];omega) fun v' h6 o6 n6 s6 keep hblk=>?_
    rw[Ud]at o6;obtain⟨a6,c6,rfl,_,_⟩:=o6.yP;rw[MU]at o6 n6 hblk ⊢;have hb5:(upd h4 b (.cells (xm [(0,0),(0,0)]) 154)) bt=some (.cells #[.slice a T.length c] TT):=s5 bt _ hb4;have hb6:h6 bt=some (.cells #[.slice a T.length c] TT):=by rw[keep bt (by rw[hb5];simp) TV.ne];exact hb5
    have hsbt:¬S bt:=fun hs=>hi bt hs TV.nb
    have ezz:((⟨bt,0,none⟩:Addr).add 0).add 0=⟨bt,0,none⟩:=by rw[zu,zu]
    have ne6:zh (.slice a6 (T.set at_ (s,T.length)++[(0,0),(0,0)]).length c6)≠some bt:=by
     rcases hblk with e | e
     ·rw[e];exact TV.ne
     ·intro e2;have:=e bt e2;rw[hb5]at this;cases this
    have dis6:∀y,zh (.slice ac xs.length cc)=some y->zh (.slice a6 (T.set at_ (s,T.length)++[(0,0),(0,0)]).length c6)≠some y:=fun y hy=>by
     rcases hblk with e | e
     ·rw[e];exact dis y hy
     ·intro e2;have h7:=e y e2;exact OC4.held y hy (ya s5 h7)
    have OC6:xp h6 (.slice ac xs.length cc) (yZ xs):=OC4.keep fun y hy=>by
     have hh:=OC4.held y hy;have e5:(upd h4 b (.cells (xm [(0,0),(0,0)]) 154)) y=h4 y:=upd_ne fun e=>hh (e▸hb)
     rw[keep y (by rw[e5];exact hh) (dis y hy),e5]
    have eset:zQ h6 (((⟨bt,0,none⟩:Addr).add 0).add 0) (.slice a6 (T.set at_ (s,T.length)++[(0,0),(0,0)]).length c6)=upd h6 bt (.cells #[.slice a6 (T.set at_ (s,T.length)++[(0,0),(0,0)]).length c6] TT):=by
     rw[ezz,hset_cells' hb6];rfl
    refine⟨by rw[ezz];exact⟨⟨.slice a T.length c,by simp[zj,hb6]⟩,by simp[yN,hb6],hsbt⟩,?_⟩;simp only[zd,zc,ze];rw[eset];intro _;have TV6:TabV h (upd h6 bt (.cells #[.slice a6 (T.set at_ (s,T.length)++[(0,0),(0,0)]).length c6] TT)) bt (T.set at_ (s,T.length)++[(0,0),(0,0)]) (P++[(i+1,B%2^i),(i+1,B%2^i+2^i)]) a6 c6 (Be cs m B (i+1)) (Ym cs m):=by
     refine⟨⟨TT,upd_same⟩,o6.keep fun z hz=>upd_ne fun e=>ne6 (e▸hz),n6,TV.nb,ne6,?_,fun y o hy=>?_⟩
     ·refine(TV.ti.grow hT hP VT VU).congr (fun l v _=>?_) (fun _ _ _=>rfl);unfold Be;constructor
      ·rintro((h | h) | ⟨rfl,rfl⟩)
       ·exact .inl h
       ·exact .inr ⟨by omega,h.2⟩
       ·exact .inr ⟨by omega,rfl⟩
      ·rintro(h | ⟨h1,h2⟩)
       ·exact .inl (.inl h)
       ·rcases(show l<i\/l=i by omega)with h | h
        ·exact .inl (.inr ⟨h,h2⟩)
        ·subst h;exact .inr ⟨rfl,h2⟩
     ·rw[upd_ne (fun e=>by rw[e,TV.nb]at hy;cases hy)];exact s6 y o hy
    have hT6:(T.set at_ (s,T.length)++[(0,0),(0,0)])[at_]? = some (s,T.length):=by
     rw[List.getElem?_append_left (by rw[List.length_set];exact hkT),List.getElem?_set_self hkT]
    have hP6:(P++[(i+1,B%2^i),(i+1,B%2^i+2^i)])[at_]? = some (i,B%2^i):=by
     rw[List.getElem?_append_left (List.getElem?_eq_some_iff.1 hP).1];exact hP
    obtain⟨_,g5,g6⟩:=TV6.cell hT6;refine⟨_,_,_,by simpa[zu]using TV6.ld,by simpa using g6,by omega,by simp;omega,(T.length:Int),by simpa[add_add]using g5,by omega,?_,by simp only[vB,vA,toInt_int];omega⟩;exact adv hT6 hP6 TV6 (by simp;omega) (OC6.keep fun z hz=>upd_ne fun e=>hcbt (e▸hz)) dis6
   ·have hqn:q≠0:=fun e=>by subst e;simp at hqn
    have TV6:TabV h h' bt T P a c (Be cs m B (i+1)) (Ym cs m):=⟨TV.hb,TV.ow,TV.nw,TV.nb,TV.ne,TV.ti.congr (fun l v hv=>by
     have hE:=(TV.ti.ext hT hP).1 hqn
     unfold Be at hE ⊢
     constructor
     ·rintro(h | ⟨h1,h2⟩)
      ·exact .inl h
      ·exact .inr ⟨by omega,h2⟩
     ·rintro(h | ⟨h1,h2⟩)
      ·exact .inl h
      ·rcases(show l<i\/l=i by omega)with h | h
       ·exact .inr ⟨h,h2⟩
       ·subst h;subst h2;exact hE) (fun _ _ _=>rfl),TV.sb⟩
    refine⟨_,_,_,by simpa[zu]using TV.ld,by simpa using g3,by omega,by omega,(q:Int),by simpa[add_add]using g2,by omega,?_,by simp only[vB,vA,toInt_int];omega⟩;exact adv hT hP TV6 (by omega) OC1 dis
  ·refine⟨_,_,_,by simpa[zu]using TV.ld,by simpa using g3,by omega,by omega,?_⟩;obtain rfl:i=Lm:=by omega
   have hnb:∀b,zh (.slice a T.length c)=some b->¬S b:=fun b hb hs=>hi b hs (TV.nw b hb)
   have hT':(ql T)[at_]? = some ((s:Int),((q:Int))):=Hr hT;obtain⟨ok4,ow4,fr4⟩:=TV.ow.VA hnb hT' ((m+1:Nat):Int);rw[MV]at ow4;simp only[yk,Int.toNat_natCast,w2];refine⟨ok4,?_⟩;obtain⟨h4,hh4⟩:∃h4,h4=zQ h' ((((a.getD default).add (at_*2)).add 0).add 0) (.int .i64 ((m+1:Nat):Int)):=⟨_,rfl⟩;obtain⟨TT,hbt'⟩:=TV.hb;have f4:∀w,zh (.slice a T.length c)≠some w->h4 w=h' w:=fun w hw=>by rw[hh4];exact fr4 w hw
   rw[<-hh4]at ow4 ⊢;rw[EL hBl]at hP;have hlT:(T.set at_ (m+1,q)).length=T.length:=List.length_set ..;have TV4:TabV h h4 bt (T.set at_ (m+1,q)) P a c (Em cs (m+1)) (Ym cs (m+1)):=by
    refine⟨⟨TT,by rw[f4 bt TV.ne,hlT];exact hbt'⟩,by rw[hlT];exact ow4,by rw[hlT];exact TV.nw,TV.nb,by rw[hlT];exact TV.ne,?_,fun y o hy=>by rw[f4 y (fun e=>by rw[TV.nw y e]at hy;cases hy)];exact TV.sb y o hy⟩;refine(TV.ti.put hT hP (m+1)).congr (fun l v _=>?_) (fun l v _=>?_)
    ·rw[Ff hcm];unfold Be;constructor
     ·rintro(h | ⟨h1,h2⟩)
      ·exact .inl h
      ·exact .inr ⟨h1,h2.symm⟩
     ·rintro(h | ⟨h1,h2⟩)
      ·exact .inl h
      ·exact .inr ⟨h1,h2.symm⟩
    ·rw[Ym,hcm];by_cases h:l=i/\v=B
     ·obtain⟨rfl,rfl⟩:=h;rw[if_pos ⟨rfl,rfl⟩,if_pos ⟨rfl,hLm⟩]
     ·rw[if_neg h,if_neg];intro h2;simp only[Option.some.injEq,Prod.mk.injEq]at h2;exact h ⟨h2.1.1.symm,h2.1.2.symm⟩
   exact⟨⟨m+1,_,P,a,c,rfl,by omega,TV4,by rw[hlT];omega,OC1.keep fun y hy=>f4 y (dis y hy),by rw[hlT];exact dis⟩,by simp only[vA,toInt_int];omega⟩
 ·obtain rfl:m=xs.length:=by omega
  exact⟨bt,T,P,a,c,rfl,TV,by omega⟩
end
section
theorem Ue:∀k,k<19->ord.getD k 0<19:=by decide
theorem QY(h:k<19):(ord.map Int.ofNat)[k]? = some ((ord.getD k 0:Nat):Int):=by
 have hl:ord.length=19:=rfl;rw[List.getElem?_map,List.getElem?_eq_getElem (by omega)];simp[List.getD,List.getElem?_eq_getElem (show k<ord.length by omega)]
theorem B8(O:xp h' v (y8 xs))(hg:¬(zt xs=0\/zt xs=2)):∃a c,v=.slice a xs.length c/\CodesAt h' a xs.length (zl xs):=by
 obtain⟨hlen,hok⟩:=we hg;simp only[y8,if_neg hg]at O;obtain⟨a,c,rfl,_,hx⟩:=xp.yP O;rw[kC];exact⟨a,c,rfl,⟨yZ xs,hx,kC,by rw[xA,kC],fun j p hp=>Bc hok hp⟩,Sl hg,by omega⟩
def NX(h:qaA)(a:Option Addr)(c:Nat)(bs:List Int)(F:Rd×List Int×List Int)(v:Value)(h':qaA):Prop:=
 ∃u w,v=.tuple #[rdV a c bs F.1,u,w]/\(F.1.k=0->Part .i64 h' u F.2.1/\Part .i64 h' w F.2.2/\qaD h u/\qaD h w)/\(∃a1 l1 c1 a2 l2 c2,u=.slice a1 l1 c1/\w=.slice a2 l2 c2)/\qaB h h'
def B9(nl:Nat)(r:Rd)(all:List Int):Rd×List Int×List Int:=if r.k=0 then(bd (FG (all.take nl) (all.drop nl)) r,all.take nl,all.drop nl)else(r,[],[])
theorem XO(hi:qaC S h0)(s0:qaB h0 h)(P:Part .i64 h (.slice aa all.length ca) all)(N:qaD h0 (.slice aa all.length ca)){x6 x13 z:Int}(hx6:0<=x6/\x6<32)
  (hlen:r.k=0->(x6+257).toNat+1<=all.length/\all.length<=1000)(K0 K1 K2 K3:Kt)(e0 e1 e2 e3 e4 e5 e7 e8 e9 e10 e11 e12 e14 e15 e16 e17 e18 e19 e20 e21 e22 e23 e24 e25 e26 e27 e28 e29 e30 e31 e32:Value) :
  Sg.wp oPP S yb (NX h0 a c bs (B9 (x6+257).toNat r all)) [e0,e1,e2,e3,e4,e5,.int .i64 x6,e7,e8,e9,e10,e11,e12,.int .i64 x13,e14,e15,e16,e17,e18,e19,e20,e21,e22,e23,e24,e25,e26,e27,e28,e29,e30,e31,e32,.int .i64 z,.slice aa all.length ca,.slice a bs.length c,.int .i64 r.i,.int .i64 r.k] h [K0,K1,K2,K3]:=by
 obtain⟨n6,rfl⟩:=Int.eq_ofNat_of_zero_le hx6.1;have w6:IntKind.i64.wrap ((n6:Int)+257)=((n6+257:Nat):Int):=zr;have e6:((n6:Int)+257).toNat=n6+257:=by omega
 rw[e6]at hlen ⊢;simp only[Sg,Tr.wp,z4,Ex.ev,coerce,toInt_int,za,zc,ze,zd,zf,xW,jI,z9,arith,Cst.val,SV.den,zn,zL,zz,zk,zi,zy,zq,vF,vG,vA,vB,vC,List.getElem?_cons_succ,decide_eq_true_eq,vD,vE,vI,vH,vJ,Nat.zero_add,and_true,if_true,if_false,vK,w6];refine⟨fun hne=>?_,fun heq=>?_⟩
 ·have hk:r.k≠0:=bne_iff_ne.1 hne;intro b1 hb1 b2 hb2;have e:B9 (n6+257) r all=(r,[],[]):=if_neg hk;rw[e];exact⟨_,_,rfl,fun h=>absurd h hk,⟨_,_,_,_,_,_,rfl,rfl⟩,s0.trans ((Sub.zC hb1).trans (Sub.zC hb2))⟩
 ·have hk:r.k=0:=by simpa using heq
  obtain⟨l1,l2⟩:=hlen hk;have e:B9 (n6+257) r all=(bd (FG (all.take (n6+257)) (all.drop (n6+257))) r,all.take (n6+257),all.drop (n6+257)):=if_pos hk;rw[e];obtain⟨_,_,ei,hca,gi⟩:=P.ints;cases ei
  refine⟨by omega,by omega,by omega,by omega,?_⟩;obtain⟨aL,cL,eL,PL,NL,nL⟩:=P.FA N (n:=n6+257) (m:=ca) (by omega) (by omega) (Nat.le_refl _);obtain⟨aR,cR,eR,PR,NR⟩:=P.from N (n:=n6+257) (by omega) hca;rw[Int.toNat_natCast,eL,eR];have lL:(all.take (n6+257)).length=n6+257:=by rw[List.length_take];omega
  obtain⟨_,_,ei,_,gL⟩:=PL.ints;cases ei
  obtain⟨_,_,ei,_,gR⟩:=PR.ints;cases ei
  have g256:(all.take (n6+257))[256]? = some ((all.take (n6+257)).getD 256 0):=by simp[List.getD,show 256<all.length by omega]
  obtain⟨g1,g2⟩:=gL.cell g256;have hbad:FG (all.take (n6+257)) (all.drop (n6+257))=((all.take (n6+257)).getD 256 0==0||(!(zt (all.take (n6+257))==1||zt (all.take (n6+257))==4)) || !(zt (all.drop (n6+257))==1||zt (all.drop (n6+257))==4||zt (all.drop (n6+257))==5)):=rfl;generalize FG (all.take (n6+257)) (all.drop (n6+257))=B at hbad ⊢;generalize (all.take (n6+257)).getD 256 0=y at g1 hbad;have fin:∀w:Bool,w=B->NX h0 a c bs (bd B r,all.take (n6+257),all.drop (n6+257)) (.tuple #[rdV a c bs (bd w r),.slice aL (all.take (n6+257)).length cL,.slice aR (all.drop (n6+257)).length cR]) h:=fun w e=>by
   subst e;exact⟨_,_,rfl,fun _=>⟨PL,PR,NL,NR⟩,⟨_,_,_,_,_,_,rfl,rfl⟩,s0⟩
  refine⟨by rw[zM,nL (by omega)];rfl,by simp,by simp only[zc,lL];omega,y,by simp only[zd,add_add];exact g1,fun hy=>?_,fun hy=>?_⟩
  ·refine(K9 (hi.sub s0) aL cL _ gL 1 4 4).mono ?_;rintro _ h2 ⟨rfl,rfl⟩;refine⟨_,rfl,fun hA=>?_,fun hA=>?_⟩
   ·refine(K9 (hi.sub s0) aR cR _ gR 1 4 5).mono ?_;rintro _ h3 ⟨rfl,rfl⟩;refine⟨_,rfl,?_⟩;refine(xZ (hi.sub s0) a c bs r _).mono ?_;rintro _ h3 ⟨rfl,rfl⟩;refine⟨_,_,_,_,_,rfl,fun _=>fin _ ?_⟩;rw[hbad];revert hy hA;cases (y==0) <;> cases (zt (all.take (n6+257))==1) <;> cases (zt (all.take (n6+257))==4) <;> simp
   ·refine(xZ (hi.sub s0) a c bs r true).mono ?_;rintro _ h3 ⟨rfl,rfl⟩;refine⟨_,_,_,_,_,rfl,fun _=>fin _ ?_⟩;rw[hbad];revert hy hA;cases (y==0) <;> cases (zt (all.take (n6+257))==1) <;> cases (zt (all.take (n6+257))==4) <;> simp
  ·refine(xZ (hi.sub s0) a c bs r true).mono ?_;rintro _ h3 ⟨rfl,rfl⟩;refine⟨_,_,_,_,_,rfl,fun _=>fin _ ?_⟩;rw[hbad];revert hy;cases (y==0) <;> simp
theorem XP(hi:qaC S h0)(s0:qaB h0 h)(hx:zo h0 .u8 a bs)(L:bs.length<=1048576)(ok:okR bs r)(P:Part .i64 h (.slice aa all.length ca) all)(N:qaD h0 (.slice aa all.length ca))(ha:all=[])
  {x6 x13 z0:Int}(hx6:0<=x6/\x6<32)(hx13:0<=x13/\x13<32)(C:r.k=0->CodesAt h0 ac lc cs)(K0 K1:Kt)(e0 e1 e2 e3 e4 e5 e7 e8 e9 e10 e11 e12 e14 e15 e16 e17 e18 e19 e20 e21 e23 e24 e25 e26 e27:Value) :
  Si.wp oPP S yb (NX h0 a c bs (B9 (x6+257).toNat (lg bs cs ((x6+257).toNat+(x13+1).toNat) r all).1 (lg bs cs ((x6+257).toNat+(x13+1).toNat) r all).2)) [e0,e1,e2,e3,e4,e5,.int .i64 x6,e7,e8,e9,e10,e11,e12,.int .i64 x13,e14,e15,e16,e17,e18,e19,e20,e21,.int .i64 z0,e23,e24,e25,e26,e27,.slice a bs.length c,.int .i64 r.i,.int .i64 r.k,.slice ac lc cc,.slice aa all.length ca] h [K0,K1]:=by
 obtain⟨n6,rfl⟩:=Int.eq_ofNat_of_zero_le hx6.1;obtain⟨n13,rfl⟩:=Int.eq_ofNat_of_zero_le hx13.1;have w6:IntKind.i64.wrap ((n6:Int)+257)=((n6+257:Nat):Int):=zr;have w13:IntKind.i64.wrap ((n13:Int)+1)=((n13+1:Nat):Int):=zr;have e6:((n6:Int)+257).toNat=n6+257:=by omega
 have e13:((n13:Int)+1).toNat=n13+1:=by omega
 have wt:IntKind.i64.wrap (((n6+257:Nat):Int)+((n13+1:Nat):Int))=((n6+257+(n13+1):Nat):Int):=zr;rw[e6,e13];simp only[Si,Tr.wp,z4,Ex.ev,coerce,toInt_int,za,zc,ze,zd,xg,z9,arith,Cst.val,SV.den,zn,zL,zz,zk,zi,zy,zV,vF,vG,vA,vB,vC,List.getElem?_cons_succ,vD,vE,vI,vH,vJ,List.length_cons,List.length_nil,Nat.zero_add,if_true,if_false,vK,w6,w13,wt];generalize hT:n6+257+(n13+1)=tot;refine⟨fun us h'=>∃(z:Int) (r':Rd) (all':List Int) (a':Option Addr) (c':Nat),us=[.int .i64 z,.slice a' all'.length c',.slice a bs.length c,.int .i64 r'.i,.int .i64 r'.k]/\okR bs r'/\Part .i64 h' (.slice a' all'.length c') all'/\qaD h0 (.slice a' all'.length c')/\qaB h0 h'/\(r'.k=0->r.k=0)/\(r'.k=0->all'.length<=tot)/\lg bs cs tot r all=lg bs cs tot r' all',
  fun us _=>if toInt (us.getD 4 undef)=0 then tot+1-slL (us.getD 1 undef)else 0,⟨z0,r,all,aa,ca,rfl,ok,P,N,s0,id,fun _=>by rw[ha];simp,rfl⟩,?_⟩
 rintro z a' l' c' ab lb cb i' k' h' ⟨z',r',all',a'',c'',hx1,ok',P',N',s',hk,hal,hlg⟩;simp only[List.cons.injEq,Value.int.injEq,Value.slice.injEq,true_and,and_true]at hx1;obtain⟨rfl,⟨rfl,rfl,rfl⟩,⟨rfl,rfl,rfl⟩,rfl,rfl⟩:=hx1;refine⟨fun hgo=>?_,fun hend=>?_⟩
 ·have hgo:r'.k=0/\all'.length<tot:=by simp at hgo;omega
  refine(Mb (hi.sub s') (hx.sub s') L r' ok' (fun h=>(C (hk h)).sub s')).mono ?_;rintro _ h2 ⟨rfl,rfl⟩;refine⟨_,_,_,_,_,_,rfl,?_⟩;have st:=A9 (bs:=bs) (cs:=cs) hgo;have len:=A8 (bs:=bs) (cs:=cs) (tot:=tot) (r:=r') (all:=all');have ok1:okR bs (lg1 bs cs tot r' all').1:=K7 ok';have oks:okR bs (sy bs cs r').1:=qk ok';refine⟨fun hs0=>?_,fun hs0 _=>?_⟩
  ·have hs0:(sy bs cs r').1.k=0:=beq_iff_eq.1 hs0;have e1:lg1 bs cs tot r' all'=(bd (decide (tot<(rp bs (sy bs cs r').1 all' (sy bs cs r').2).2.length)) (rp bs (sy bs cs r').1 all' (sy bs cs r').2).1,(rp bs (sy bs cs r').1 all' (sy bs cs r').2).2):=if_pos hs0;refine(Sn hi s' hx L (sy bs cs r').1 oks P' N' (by omega) (sy bs cs r').2).mono ?_;rintro _ h3 ⟨u,rfl,P3,N3,s3⟩;obtain⟨a3,c3,rfl,_,_⟩:=P3.ints;refine⟨_,_,_,_,_,_,_,_,rfl,?_⟩;have ed:decide (((rp bs (sy bs cs r').1 all' (sy bs cs r').2).2.length:Int)>(tot:Int))=decide (tot<(rp bs (sy bs cs r').1 all' (sy bs cs r').2).2.length):=by
    by_cases h:tot<(rp bs (sy bs cs r').1 all' (sy bs cs r').2).2.length
    ·rw[decide_eq_true (show((rp bs (sy bs cs r').1 all' (sy bs cs r').2).2.length:Int)>(tot:Int) by omega),decide_eq_true h]
    ·rw[decide_eq_false (show ¬((rp bs (sy bs cs r').1 all' (sy bs cs r').2).2.length:Int)>(tot:Int) by omega),decide_eq_false h]
   rw[ed];refine(xZ (hi.sub s3) ab cb bs (rp bs (sy bs cs r').1 all' (sy bs cs r').2).1 _).mono ?_;rintro _ h4 ⟨rfl,rfl⟩;refine⟨_,_,_,_,_,rfl,fun _=>?_⟩;have e2:(lg1 bs cs tot r' all').2=(rp bs (sy bs cs r').1 all' (sy bs cs r').2).2:=by rw[e1]
   have e3:(lg1 bs cs tot r' all').1=bd (decide (tot<(rp bs (sy bs cs r').1 all' (sy bs cs r').2).2.length)) (rp bs (sy bs cs r').1 all' (sy bs cs r').2).1:=by rw[e1]
   rw[<-e3];rw[<-e2]at P3 N3 ⊢;refine⟨⟨_,(lg1 bs cs tot r' all').1,(lg1 bs cs tot r' all').2,a3,c3,rfl,ok1,P3,N3,s3,fun _=>hk hgo.1,fun h=>(len.2.2 h).2,hlg.trans st⟩,?_⟩;simp only[vB,vA,toInt_int,zc,hgo.1,if_true];split
   ·rename_i h0;have:=len.2.2 h0;omega
   ·omega
  ·have hs0:(sy bs cs r').1.k≠0:=fun e=>by simp[e]at hs0
   have e1:lg1 bs cs tot r' all'=((sy bs cs r').1,all'):=if_neg hs0;rw[e1]at st;refine⟨⟨_,(sy bs cs r').1,all',a',c',rfl,oks,P',N',s',fun _=>hk hgo.1,fun h=>absurd h hs0,hlg.trans st⟩,?_⟩;simp only[vB,vA,toInt_int,zc,hgo.1,if_true,if_neg hs0];omega
 ·have hend:¬(r'.k=0/\all'.length<tot):=by simp at hend;omega
  rw[yU hend]at hlg;rw[hlg];have:=XO (x13:=(n13:Int)) (z:=z) hi s' (a:=ab) (c:=cb) (bs:=bs) (r:=r') P' N' (x6:=(n6:Int)) ⟨by omega,by omega⟩ (fun h=>⟨by have:=hal h;omega,by have:=hal h;omega⟩);rw[e6]at this;exact this _ _ _ _ _ _ _ _ _ _ _ _ _ _ _ _ _ _ _ _ _ _ _ _ _ _ _ _ _ _ _ _ _ _ _
theorem VV(hi:qaC S h)(hx:zo h .u8 a bs)(L:bs.length<=1048576)(r:Rd)(ok:okR bs r) :
  zb oPP S Ck #[rdV a c bs r] h (NX h a c bs (zN bs r)):=by
 refine Kd (vs:=[.slice a bs.length c,.int .i64 r.i,.int .i64 r.k]) ⟨rfl,rfl,rfl,trivial⟩ hi ?_;simp only[Gc,Tr.wp,z4,Ex.ev,coerce,toInt_int,za,zc,ze,zd,zf,zM,z9,arith,Cst.val,SV.den,zn,zL,zz,zk,zi,zy,zV,zq,vF,vG,vA,vB,vC,decide_eq_true_eq,decide_eq_false_iff_not,vD,vE,vI,vH,vJ,List.length_cons,List.length_nil,Nat.zero_add,and_true,if_true,if_false,vK];obtain⟨ok0,ok1,ok2,ok3,ok4⟩:=Fg ok;have n1:=yp (bs:=bs) (n:=5) (r:=r);have n2:=yp (bs:=bs) (n:=5) (r:=yJ bs r);have n3:=yp (bs:=bs) (n:=4) (r:=y9 bs r);have e5:(2:Int)^5=32:=by decide
 have e4:(2:Int)^4=16:=by decide
 have w1:IntKind.i64.wrap ((tk bs 5 r).2+257)=(tk bs 5 r).2+257:=i64_in _ (by omega);have w2:IntKind.i64.wrap ((tk bs 5 (yJ bs r)).2+1)=(tk bs 5 (yJ bs r)).2+1:=i64_in _ (by omega);have w3:IntKind.i64.wrap ((tk bs 4 (y9 bs r)).2+4)=(((tk bs 4 (y9 bs r)).2.toNat+4:Nat):Int):=zr;refine(xD hi hx L r ok 5 (by omega)).mono ?_;rintro _ h1 ⟨rfl,rfl⟩;refine⟨_,_,_,_,_,_,rfl,?_⟩;rw[w1];refine(xZ hi a c bs (tk bs 5 r).1 (decide ((tk bs 5 r).2+257>286))).mono ?_;rintro _ h1 ⟨rfl,rfl⟩;refine⟨_,_,_,_,_,rfl,?_⟩;refine(xD hi hx L (yJ bs r) ok0 5 (by omega)).mono ?_;rintro _ h1 ⟨rfl,rfl⟩;refine⟨_,_,_,_,_,_,rfl,?_⟩;rw[w2];refine(xZ hi a c bs (tk bs 5 (yJ bs r)).1 (decide ((tk bs 5 (yJ bs r)).2+1>30))).mono ?_;rintro _ h1 ⟨rfl,rfl⟩;refine⟨_,_,_,_,_,rfl,?_⟩;refine(xD hi hx L (y9 bs r) ok1 4 (by omega)).mono ?_;rintro _ h1 ⟨rfl,rfl⟩;refine⟨_,_,_,_,_,_,rfl,?_⟩;rw[w3];intro b hb;have hsb:=JU hi hb;have sx:∀ {h':qaA},qaB h1 h'->zo h' .u8 a bs:=fun s=>hx.sub s
 have ez:(#[Value.int .i64 0,.int .i64 0,.int .i64 0,.int .i64 0,.int .i64 0,.int .i64 0,.int .i64 0,.int .i64 0,.int .i64 0,.int .i64 0,.int .i64 0,.int .i64 0,.int .i64 0,.int .i64 0,.int .i64 0,.int .i64 0,.int .i64 0,.int .i64 0,.int .i64 0]:Array Value)=ints .i64 (List.replicate 19 0):=by rfl
 rw[ez];generalize hr2:(tk bs 4 (y9 bs r)).1=r2;generalize hn:(tk bs 4 (y9 bs r)).2.toNat+4=n;have hn19:n<=19:=by omega
 have okr2:okR bs r2:=hr2▸y7 ok1;refine⟨fun us h'=>∃(j:Nat) (z:Int),us=[.int .i64 z,.int .i64 j,.slice a bs.length c,.int .i64 (sm bs r2 j).1.i,.int .i64 (sm bs r2 j).1.k]/\j<=n/\h' b=some (.cells (ints .i64 (sm bs r2 j).2) 2)/\qaB h1 h',fun us _=>n-(toInt (us.getD 1 undef)).toNat,⟨0,0,rfl,by omega,upd_same,Sub.zC hb⟩,?_⟩;rintro z y a' l' c' i' k' h' ⟨j,z',hx1,hj,hbj,s1⟩;simp only[List.cons.injEq,Value.int.injEq,Value.slice.injEq,true_and,and_true]at hx1;obtain⟨rfl,rfl,⟨rfl,rfl,rfl⟩,rfl,rfl⟩:=hx1;have okj:okR bs (sm bs r2 j).1:=K8 okr2;refine⟨fun hlt=>?_,fun hge=>?_⟩
 ·have hjn:j<n:=by omega
  refine(xD (hi.sub s1) (sx s1) L (sm bs r2 j).1 okj 3 (by omega)).mono ?_;rintro _ h2 ⟨rfl,rfl⟩;refine⟨_,_,_,_,_,_,rfl,?_⟩;refine(Hq (hi.sub s1)).mono ?_;rintro _ h3 ⟨b3,T3,hb3,rfl,rfl⟩;have s3:qaB h2 (upd h2 b3 (.cells (ints .i64 (ord.map Int.ofNat)) T3)):=Sub.zC hb3;have zj:Eng.zj (upd h2 b3 (.cells (ints .i64 (ord.map Int.ofNat)) T3)) ((((some (⟨b3,0,none⟩:Addr)).getD default).add ((j:Int).toNat*1)).add 0)=some (.int .i64 ((ord.getD j 0:Nat):Int)):=by
   rw[add_add,Option.getD_some,yR];simp only[Eng.zj,upd_same,Int.toNat_natCast,Nat.mul_one,Nat.add_zero];simp[Eng.ints,-List.map_map,QY (show j<19 by omega)]
  have hol:=Ue j (by omega);have hne:b3≠b:=fun e=>by rw[e,hbj]at hb3;cases hb3
  refine⟨_,_,_,rfl,rfl,by omega,by omega,_,zj,rfl,by omega,by omega,?_⟩;refine OS (i:=ord.getD j 0) (by rw[upd_ne (Ne.symm hne)];exact hbj) hsb (by rw[Hp];exact hol) ?_;rw[show IntKind.i64.wrap ((j:Int)+1)=((j+1:Nat):Int) by rw[i64_in _ (by omega)];omega];refine⟨⟨j+1,_,rfl,by omega,upd_same,fun y o hy=>?_⟩,by simp only[vB,vA,toInt_int,Int.toNat_natCast];omega⟩;rw[upd_ne (fun e=>by rw[e,hb]at hy;cases hy)];exact s3 y o (s1 y o hy)
 ·obtain rfl:j=n:=by omega
  have e2:sm bs r2 j=yv bs r:=by unfold yv;rw[hr2,hn]
  rw[e2]at hbj okj ⊢;have hsl:(yv bs r).2.length=19:=by unfold yv;exact Hp
  have hxb:zo h' .i64 (some ⟨b,0,none⟩) (yv bs r).2:=Kb hbj;have kh:=AZ (S:=S) (hi.sub s1) (some ⟨b,0,none⟩) 19 (yv bs r).2 hxb;rw[hsl]at kh;refine kh.mono ?_;rintro _ h2 ⟨rfl,rfl⟩;refine⟨_,rfl,?_⟩;refine(xZ (hi.sub s1) a' c' bs (yv bs r).1 (zt (yv bs r).2 != 1)).mono ?_;rintro _ h2 ⟨rfl,rfl⟩;refine⟨_,_,_,_,_,rfl,?_⟩;have O:tI.O h2 (.slice (some ⟨b,0,none⟩) 19 19) (yv bs r).2:=Ka hbj hsl;refine(xY (hi.sub s1) O (by show List.length _<=_;omega)).mono ?_;rintro v3 h3 ⟨OC,NC,s3⟩;obtain⟨s13,hs13⟩:∃s,s=s1.trans s3:=⟨_,rfl⟩;obtain⟨a3,c3,rfl,_,_⟩:=xp.yP OC;refine⟨_,_,_,rfl,fun b4 hb4=>?_⟩;have C:(jT bs r).k=0->CodesAt h3 a3 (y8 (yv bs r).2).length (zl (yv bs r).2):=fun hk=>by
   have hk1:zt (yv bs r).2=1:=by have:=(Hn.1 hk).2;simpa using this
   obtain⟨a3',c3',e,C⟩:=B8 OC (by rw[hk1];omega);simp only[Value.slice.injEq]at e;rw[e.1,e.2.1];exact C
  have s4:qaB h3 (upd h3 b4 (.cells (ints .i64 []) 2)):=Sub.zC hb4;have eL:B9 (w7 bs r) (xi bs r).1 (xi bs r).2=zN bs r:=rfl;have K:=XP (z0:=z) (hi.sub s13) s4 (a:=a') (c:=c') (hx.sub s13) L (r:=jT bs r) ok3 (all:=[]) (aa:=some ⟨b4,0,none⟩) (ca:=0) (Own.made (k:=.i64) (h:=h3) (b:=b4) (T:=2) []).part (New.of hb4) rfl
   (x6:=(tk bs 5 r).2) (x13:=(tk bs 5 (yJ bs r)).2) ⟨by omega,by omega⟩ ⟨by omega,by omega⟩ (cc:=c3) C
  refine Tr.wp_mono (fun v h' hv=>?_) _ _ _ _ _ (KLe.refl _) (K _ _ _ _ _ _ _ _ _ _ _ _ _ _ _ _ _ _ _ _ _ _ _ _ _ _ _) (fun _ _ _ _ _ _ hh=>hh);obtain⟨u,w,e1,e2,e3,e4⟩:=hv;exact⟨u,w,e1,fun hk=>by obtain⟨p1,p2,p3,p4⟩:=e2 hk;exact⟨p1,p2,fun y hy=>ya s13 (p3 y hy),fun y hy=>ya s13 (p4 y hy)⟩,e3,s13.trans e4⟩
end
variable {b1 b2 bm c2 n3 n5 z:Nat}{p:Int}{PP TT:List (Nat×Nat)}{a2:Option Addr}{F:Rd×List Int×List Int}{r0:Rd}{T1 T2:TypeId}
section
section
structure MC where
 w:Value
 out:Value
 rm:Int
 last:Bool
 l:Value
 d:Value
def zX(a:Option Addr)(c:Nat)(bs:List Int)(p:Int)(m:MC)(T:TypeId):Obj:=
 .cells #[.slice a bs.length c,.int .i64 p,m.w,m.out,.int .i64 m.rm,.bool m.last,m.l,m.d] T
structure MAt(h0 h:qaA)(bm:Nat)(a:Option Addr)(c:Nat)(bs:List Int)(p:Int)(m:MC)(T:TypeId):Prop where
 hb:h bm=some (zX a c bs p m T)
 nb:h0 bm=none
 sb:qaB h0 h
structure Errs(h:qaA):Prop where
 e2:zj h ⟨3,0,none⟩=some (.int .i64 2)
 e3:zj h ⟨0,0,none⟩=some (.int .i64 3)
theorem Errs.sub(H:Errs h)(s:qaB h h'):Errs h':=⟨xF s H.e2,xF s H.e3⟩
def yh(k:Int):Value:=if k=0 then .nilIface else .iface tCl (.agg #[.int .i64 k])
theorem zP{k:Int}:x7 (yh k)=decide (k=0):=by
 unfold yh;split
 ·rename_i h;simp[x7,h]
 ·rename_i h;simp[x7,h]
theorem zg{k:Int}:kv (yh k)=yh k:=by unfold yh;split <;> rfl
theorem Uf:yh 0=.nilIface:=rfl
theorem QZ{k:Int}(h:k≠0):yh k=.iface tCl (.agg #[.int .i64 k]):=if_neg h
theorem MAt.keep{p q:Int}{m:MC}(H:MAt h0 h bm a c bs p m T)(e:h'=upd h bm (zX a c bs q m T)):MAt h0 h' bm a c bs q m T:=by
 subst e;exact⟨upd_same,H.nb,fun y o hy=>by rw[upd_ne (fun e=>by rw[e,H.nb]at hy;cases hy)];exact H.sb y o hy⟩
section
variable {m:MC}
theorem yO(hb:h bm=some (zX a c bs p m T)):zj h ⟨bm,0,none⟩=some (.slice a bs.length c)/\zj h ⟨bm,1,none⟩=some (.int .i64 p)/\zj h ⟨bm,2,none⟩=some m.w/\zj h ⟨bm,3,none⟩=some m.out/\zj h ⟨bm,4,none⟩=some (.int .i64 m.rm)/\zj h ⟨bm,5,none⟩=some (.bool m.last)/\zj h ⟨bm,6,none⟩=some m.l/\zj h ⟨bm,7,none⟩=some m.d:=by
 simp[zj,hb,zX]
theorem MW{p q:Int}(hb:h bm=some (zX a c bs p m T)):zQ h ⟨bm,1,none⟩ (.int .i64 q)=upd h bm (zX a c bs q m T):=by
 rw[hset_cells' hb];rfl
theorem kS(hb:h bm=some (zX a c bs p m T))(hs:¬S bm)(hc:zj h ⟨bm,i,none⟩=some v):xE S h ⟨bm,i,none⟩:=⟨⟨_,hc⟩,by simp[yN,hb,zX],hs⟩
theorem Ug(hi:qaC S h0)(hx:zo h0 .u8 a bs)(L:bs.length<=1048576)(p:Nat)(hp:p<=8*bs.length)(M:MAt h0 h bm a c bs p m T) :
  zb oPP S xV #[.pointer (some ⟨bm,0,none⟩)] h (fun v h'=>(p=8*bs.length/\v=.int .i64 (-1)/\h'=h)\/(p<8*bs.length/\v=.int .i64 (xu bs p)/\h'=upd h bm (zX a c bs ((p+1:Nat):Int) m T))):=by
 have hsb:¬S bm:=fun hs=>hi bm hs M.nb
 refine EP (vs:=[.pointer (some ⟨bm,0,none⟩)]) ⟨rfl,trivial⟩ (hi.sub M.sb) ?_;simp only[Bl,Tr.wp,Ex.ev,coerce,toInt_int,za,zc,ze,zd,zf,zx,zM,xb,z9,arith,Cst.val,SV.den,zy,zq,yk,vA,vB,decide_eq_true_eq,decide_eq_false_iff_not,vD,vE,vI,vH,Nat.zero_add,Nat.add_zero,and_true,zu];obtain⟨g0,g1,_⟩:=yO M.hb;have w8:IntKind.i64.wrap (8*(bs.length:Int))=8*(bs.length:Int):=i64_in _ (by omega);have w1:IntKind.i64.wrap ((p:Int)+1)=((p+1:Nat):Int):=zr;have wd:IntKind.i64.wrap ((p:Int).tdiv 8)=((p/8:Nat):Int):=by rw[Int.tdiv_eq_ediv_of_nonneg (by omega)];exact i64_in _ (by omega)
 have wm:(p:Int).tmod 8=((p%8:Nat):Int):=by rw[Int.tmod_eq_emod_of_nonneg (by omega)];omega
 refine⟨by simp,p,g1,by simp,_,_,_,g0,fun hge=>?_,fun hlt=>?_⟩
 ·rw[w8]at hge;exact .inl (by omega)
 ·rw[w8]at hlt;have hlt:p<8*bs.length:=by omega
  have hpl:p/8<bs.length:=by omega
  refine⟨by simp,p,g1,by simp,p,g1,by simp,kS M.hb hsb g1,?_⟩;rw[w1,MW M.hb];have M':=M.keep (q:=((p+1:Nat):Int)) rfl;obtain⟨k0,_⟩:=yO M'.hb;obtain⟨x1,x2⟩:=(hx.sub M'.sb).cell (List.getElem?_eq_getElem hpl);rw[wd,wm];refine⟨by simp,_,_,_,k0,by simpa using x2,by omega,by omega,bs[p/8],by simp only[Int.toNat_natCast,Nat.mul_one,add_add,Nat.add_zero];exact x1,by omega,.inr ⟨hlt,?_,rfl⟩⟩;rw[Int.toNat_natCast];have e:bs.getD (p/8) 0=bs[p/8]:=by simp[List.getD,List.getElem?_eq_getElem hpl]
  have e2:min (p%8) IntKind.u8.bits=p%8:=by
   have:IntKind.u8.bits=8:=rfl;rw[this];omega
  rw[e2,XF,i64_in _ (by omega),xu,e]
theorem Zk{v:Int}(b:Int)(h0:0<=v)(h1:v<2^i)(hb:0<=b/\b<=1)(hi:i<62):Go.bits .or .i64 v (IntKind.i64.wrap (b*2^i))=v+b*2^i:=by
 have hp:(2:Int)^i<=2^61:=by
  rw[yC,yC];exact_mod_cast Nat.pow_le_pow_right (by decide) (show i<=61 by omega)
 have hp0:(0:Int)<2^i:=Int.pow_pos (by decide);have hb1:0<=b*2^i/\b*2^i<=2^61:=by
  obtain rfl | rfl:b=0\/b=1:=by omega
  ·rw[Int.zero_mul];omega
  ·rw[Int.one_mul];omega
 have hw:IntKind.i64.wrap (b*2^i)=b*2^i:=i64_in _ (by omega);have h:=YY b h0 h1 hb (show i<64 by omega);have hX:IntKind.u64.wrap ((BitVec.ofInt 64 v ||| BitVec.ofInt 64 (b*2^i)).toNat:Int)=v+b*2^i:=h;rw[hw];show IntKind.i64.wrap ((BitVec.ofInt 64 v ||| BitVec.ofInt 64 (b*2^i)).toNat:Int)=_;have hl:=(BitVec.ofInt 64 v ||| BitVec.ofInt 64 (b*2^i)).isLt;generalize (BitVec.ofInt 64 v ||| BitVec.ofInt 64 (b*2^i)).toNat=X at hX hl ⊢;rw[u64_in _ (by omega)]at hX;rw[hX];exact i64_in _ (by omega)
theorem Jm(hi:qaC S h0)(G:Errs h0)(hx:zo h0 .u8 a bs)(L:bs.length<=1048576)(p:Nat)(hp:p<=8*bs.length)(n:Nat)(hn:n<=32)(M:MAt h0 h bm a c bs p m T) :
  zb oPP S yf #[.pointer (some ⟨bm,0,none⟩),.int .i64 n] h (fun v h'=>v=.tuple #[.int .i64 (tk bs n ⟨p,0⟩).2,yh (tk bs n ⟨p,0⟩).1.k]/\h'=upd h bm (zX a c bs (tk bs n ⟨p,0⟩).1.i m T)):=by
 refine Dj (vs:=[.pointer (some ⟨bm,0,none⟩),.int .i64 n]) ⟨rfl,rfl,trivial⟩ (hi.sub M.sb) ?_;simp only[wY,Tr.wp,z4,Ex.ev,coerce,toInt_int,za,zc,ze,zd,zf,zx,xb,z9,arith,Cst.val,SV.den,zn,zL,zz,zk,zi,zy,zV,zq,vF,vG,vA,vB,vC,List.getElem?_cons_succ,decide_eq_true_eq,decide_eq_false_iff_not,vD,vE,vI,vH,vJ,Nat.zero_add,Nat.add_zero,and_true,if_false,vK,zu];obtain⟨g0,g1,_⟩:=yO M.hb;have w8:IntKind.i64.wrap (8*(bs.length:Int))=8*(bs.length:Int):=i64_in _ (by omega);have ws:IntKind.i64.wrap (8*(bs.length:Int)-(p:Int))=8*(bs.length:Int)-(p:Int):=i64_in _ (by omega);refine⟨by simp,_,_,_,g0,by simp,p,g1,fun hgt=>?_,fun hle=>?_⟩
 ·rw[w8,ws]at hgt;have e:tk bs n ⟨(p:Int),0⟩=(⟨(p:Int),2⟩,0):=by unfold tk;rw[if_pos rfl,if_pos (by simp only;omega)]
  rw[e];exact⟨2,(G.sub M.sb).e2,rfl,(qR M.hb).symm⟩
 ·rw[w8,ws]at hle;have e:tk bs n ⟨(p:Int),0⟩=(⟨(p:Int)+n,0⟩,yg bs p n):=by unfold tk;rw[if_pos rfl,if_neg (by simp only;omega)];rfl
  rw[e];refine⟨fun us h'=>∃j:Nat,us=[.int .i64 (yg bs p j),.int .i64 j]/\j<=n/\h'=upd h bm (zX a c bs ((p+j:Nat):Int) m T),fun us _=>n-(toInt (us.getD 1 undef)).toNat,⟨0,rfl,by omega,(qR M.hb).symm⟩,?_⟩;rintro x y h' ⟨j,hx1,hj,rfl⟩;obtain⟨rfl,rfl⟩:x=yg bs p j/\y=j:=by simpa using hx1
  refine⟨fun hlt=>?_,fun hge=>?_⟩
  ·have hjn:j<n:=by omega
   refine(Ug hi hx L (p+j) (by omega) (M.keep rfl)).mono ?_;rintro _ h2 (⟨e1,_,_⟩ | ⟨_,rfl,rfl⟩)
   ·omega
   ·rw[xw];have lt:=qS (xs:=bs) (a:=p) (n:=j);have m64:min (j:Int).toNat IntKind.i64.bits=j:=by
     have:IntKind.i64.bits=64:=rfl;rw[this];omega
    have w2:IntKind.i64.wrap ((j:Int)+1)=((j+1:Nat):Int):=zr;refine⟨_,rfl,by omega,?_⟩;rw[m64,Zk _ lt.1 lt.2 Bx (by omega),w2];exact⟨⟨j+1,rfl,by omega,rfl⟩,by simp only[vB,vA,toInt_int,Int.toNat_natCast];omega⟩
  ·obtain rfl:j=n:=by omega
   refine⟨rfl,?_⟩;rw[show((p+j:Nat):Int)=(p:Int)+(j:Int) by omega]
end
end
section
theorem Ra{bs:List Int}{p:Nat}:∀ {n l:Nat},l<n->(((yg bs p n).toNat/2^l%2:Nat):Int)=xu bs (p+l)
 | 0,l,h=>by omega
 | n+1,l,h=>by
  have lt:=qS (xs:=bs) (a:=p) (n:=n);have hb:=Bx (xs:=bs) (i:=p+n);obtain⟨B,hB⟩:=Int.eq_ofNat_of_zero_le hb.1;obtain⟨N,hN⟩:=Int.eq_ofNat_of_zero_le lt.1;have e:(yg bs p (n+1)).toNat=N+2^n*B:=by
   have e1:yg bs p (n+1)=((N+2^n*B:Nat):Int):=by
    rw[yg,hN,hB];push_cast;rw[Int.mul_comm]
   rw[e1,Int.toNat_natCast]
  have hN2:N<2^n:=by
   have:=lt.2;rw[hN,yC]at this;exact_mod_cast this
  have hp:0<2^n:=Nat.two_pow_pos n;rw[e];by_cases hl:l=n
  ·subst hl;rw[Nat.add_mul_div_left _ _ hp,Nat.div_eq_of_lt hN2,hB];omega
  ·have ih:=Ra (bs:=bs) (p:=p) (n:=n) (l:=l) (by omega);rw[hN,Int.toNat_natCast]at ih;rw[<-ih];obtain⟨d,rfl⟩:∃d,n=l+(d+1):=⟨n-l-1,by omega⟩;rw[Nat.pow_add,Nat.mul_assoc,Nat.add_mul_div_left _ _ (Nat.two_pow_pos l),Nat.pow_succ];have:2^d*2*B=2*(2^d*B):=by rw[Nat.mul_comm (2^d) 2,Nat.mul_assoc]
   rw[this];omega
section
variable {m:MC}
theorem XQ(hi:qaC S h0)(hx:zo h0 .u8 a bs)(L:bs.length<=1048576)(p:Nat)(hp:p<=8*bs.length)(M:MAt h0 h bm a c bs p m T)
  (TV:TabV h0 h bt TT PP a2 c2 (Em cs cs.length) (Ym cs cs.length))(hTl:TT.length<=20000)(hM:∀c∈cs,c.1<=15)(hbt:bt≠bm)(hbl:zh (.slice a2 TT.length c2)≠some bm)(hsl:Ym cs cs.length 0 0=0)(hcl:cs.length<=1000) :
  zb oPP S kB #[.pointer (some ⟨bt,0,none⟩),.func (.func xV) #[.pointer (some ⟨bm,0,none⟩)] #[]] h (fun v h'=>v=Sm (nxB bs cs p)/\∃p':Nat,p'<=8*bs.length/\h'=upd h bm (zX a c bs p' m T)/\((nxB bs cs p).1=1->(p':Int)=p+(nxB bs cs p).2.2)):=by
 refine Di (vs:=[.pointer (some ⟨bt,0,none⟩),.func (.func xV) #[.pointer (some ⟨bm,0,none⟩)] #[]]) ⟨rfl,rfl,trivial⟩ (hi.sub TV.sb) ?_;simp only[wX,Tr.wp,z4,Ex.ev,coerce,toInt_int,za,zc,ze,zd,zf,zx,zM,xb,z9,arith,Cst.val,SV.den,zn,zL,zz,zk,zi,zy,zV,zq,vF,vG,vA,vB,vC,decide_eq_true_eq,decide_eq_false_iff_not,vD,vE,vI,vH,vJ,Nat.zero_add,and_true,if_false,vK];obtain⟨s0,q0,hT0⟩:=TV.ti.get TV.ti.root;have hk0:=(List.getElem?_eq_some_iff.1 hT0).1;obtain⟨g1,g2,g3⟩:=TV.cell hT0;obtain⟨n,hn⟩:∃n,n=look bs p:=⟨_,rfl⟩;obtain⟨b,hb⟩:∃b,b=(yg bs p n).toNat:=⟨_,rfl⟩;have hn15:n<=15:=hn▸QX;have enx:nxB bs cs p=nxt cs b (n+1) 0:=by unfold nxB;rw[<-hn,<-hb]
 rw[enx];refine⟨by simp,_,_,_,by simpa[zu]using TV.ld,by simpa using g3,by simp,by omega,(s0:Int),(q0:Int),⟨by simpa[add_add]using g1,by simpa[add_add]using g2⟩,?_⟩;have tv:∀q:Int,TabV h0 (upd h bm (zX a c bs q m T)) bt TT PP a2 c2 (Em cs cs.length) (Ym cs cs.length):=fun q=>
  ⟨by obtain⟨TY,hb⟩:=TV.hb;exact⟨TY,(upd_ne hbt).trans hb⟩,TV.ow.keep fun z hz=>upd_ne fun e=>hbl (e▸hz),TV.nw,TV.nb,TV.ne,TV.ti,(M.keep (q:=q) rfl).sb⟩
 refine⟨fun us h'=>∃(l k s q:Nat),us=[.int .i64 l,.int .i64 s,.int .i64 q]/\TT[k]? = some (s,q)/\PP[k]? = some (l,b%2^l)/\l<=n/\h'=upd h bm (zX a c bs ((p+l:Nat):Int) m T)/\nxt cs b (n+1) 0=nxt cs b (n+1-l) l,fun us _=>n-(toInt (us.getD 0 undef)).toNat,⟨0,0,s0,q0,rfl,hT0,by rw[TV.ti.root];simp[Nat.mod_one],by omega,(qR M.hb).symm,rfl⟩,?_⟩;rintro x y z h' ⟨l,k,s,q,hx1,hT,hP,hl,rfl,hnx⟩;obtain⟨rfl,rfl,rfl⟩:x=l/\y=s/\z=q:=by simpa using hx1
 obtain⟨f,hf⟩:∃f,n+1-l=f+1:=⟨n-l,by omega⟩;have hnx2:nxt cs b (n+1) 0=(if s≠0 then(1,(s:Int)-1,(l:Int))else if Ec cs l (b%2^l)then nxt cs b f (l+1)else(0,0,0)):=by rw[hnx,hf,nxt,<-TV.ti.sym hT hP]
 have hsub:=(tv ((p+l:Nat):Int)).sb;have hsy:s<=cs.length:=by
  rw[TV.ti.sym hT hP];by_cases h0:Ym cs cs.length l (b%2^l)=0
  ·omega
  ·obtain⟨t,ht,_,_,e⟩:=Fc h0;omega
 have hpl:p+l<=8*bs.length:=by unfold look at hn;omega
 refine⟨fun hs=>?_,fun hs=>⟨fun hq=>?_,fun hq=>?_⟩⟩
 ·rw[hnx2,if_pos (by omega)];refine⟨?_,p+l,hpl,rfl,fun _=>by simp only;omega⟩;unfold Sm;simp only;rw[i64_in _ (by omega)]
 ·have hs0:s=0:=by omega
  have hq0:q=0:=by have:(q:Int)=0:=beq_iff_eq.1 hq;omega
  have hE:¬Ec cs l (b%2^l):=fun h=>by
   have:=(TV.ti.ext hT hP).2 (LY.2 h);exact this hq0
  rw[hnx2,if_neg (by omega),if_neg hE];exact⟨rfl,p+l,hpl,rfl,fun h=>by cases h⟩
 ·have hs0:s=0:=by omega
  have hqn:q≠0:=fun e=>by subst e;simp at hq
  have hE:Ec cs l (b%2^l):=LY.1 ((TV.ti.ext hT hP).1 hqn);rw[if_neg (by omega),if_pos hE]at hnx2;obtain⟨k0,k1⟩:=TV.ti.kid hT hP hqn;have hkk:=(List.getElem?_eq_some_iff.1 k1).1;rw[TV.ti.len]at hkk;have hl15:l<15:=zal hM hE;refine⟨_,_,_,rfl,?_⟩;refine(Ug hi hx L (p+l) hpl (M.keep (q:=((p+l:Nat):Int)) rfl)).mono ?_;rintro _ h4 (⟨e8,rfl,rfl⟩ | ⟨hln,rfl,rfl⟩)
  ·refine⟨_,rfl,fun _=>?_,fun h=>by omega⟩;have:f=0:=by unfold look at hn;omega
   rw[hnx2,this];exact⟨rfl,p+l,hpl,rfl,fun h=>by cases h⟩
  ·rw[xw];have hb01:=Bx (xs:=bs) (i:=p+l);have hlt:l<n:=by unfold look at hn;omega
   have hbit:xu bs (p+l)=((b/2^l%2:Nat):Int):=by rw[hb,Ra hlt]
   rw[hbit]at hb01 ⊢;refine⟨_,rfl,fun h=>by omega,fun _=>?_⟩;have w1:IntKind.i64.wrap ((q:Int)+((b/2^l%2:Nat):Int))=((q+b/2^l%2:Nat):Int):=zr;have w2:IntKind.i64.wrap ((l:Int)+1)=((l+1:Nat):Int):=zr;have hP':PP[q+b/2^l%2]? = some (l+1,b%2^(l+1)):=by
    rw[Pa];rcases(show b/2^l%2=0\/b/2^l%2=1 by omega)with h | h <;> rw[h]
    ·simpa using k0
    ·simpa using k1
   obtain⟨s',q',hT'⟩:=TV.ti.get hP';have TV':=tv ((p+l+1:Nat):Int);obtain⟨g4,g5,g6⟩:=TV'.cell hT';rw[w1,w2];refine⟨by simp,_,_,_,by simpa[zu]using TV'.ld,by simpa using g6,by omega,by omega,(s':Int),(q':Int),⟨by simp only[Int.toNat_natCast,add_add,Nat.add_zero];exact g4,by simp only[Int.toNat_natCast,add_add];exact g5⟩,⟨l+1,_,s',q',rfl,hT',hP',by omega,rfl,?_⟩,by simp only[vA,toInt_int];omega⟩;rw[hnx2];congr 1;omega
theorem MX(hi:qaC S h0)(G:Errs h0)(hx:zo h0 .u8 a bs)(L:bs.length<=1048576)(p:Nat)(hp:p<=8*bs.length)(M:MAt h0 h bm a c bs p m T)
  (TV:TabV h0 h bt TT PP a2 c2 (Em cs cs.length) (Ym cs cs.length))(hTl:TT.length<=20000)(hM:∀c∈cs,c.1<=15)(hbt:bt≠bm)(hbl:zh (.slice a2 TT.length c2)≠some bm)(hsl:Ym cs cs.length 0 0=0)(hcl:cs.length<=1000) :
  zb oPP S yY #[.pointer (some ⟨bm,0,none⟩),.pointer (some ⟨bt,0,none⟩)] h (fun v h'=>v=.tuple #[.int .i64 (sy bs cs ⟨p,0⟩).2,yh (sy bs cs ⟨p,0⟩).1.k]/\∃p':Nat,p'<=8*bs.length/\h'=upd h bm (zX a c bs p' m T)/\((sy bs cs ⟨p,0⟩).1.k=0->(p':Int)=(sy bs cs ⟨p,0⟩).1.i)):=by
 refine Dk (vs:=[.pointer (some ⟨bm,0,none⟩),.pointer (some ⟨bt,0,none⟩)]) ⟨rfl,rfl,trivial⟩ (hi.sub M.sb) ?_;simp only[wZ,Tr.wp,z4,Ex.ev,coerce,toInt_int,za,zf,zx,z9,Cst.val,SV.den,zn,zL,zz,zk,zi,zy,zq,vF,vG,vA,vB,vD,vE,vI,vH,vJ,Nat.zero_add,and_true,if_false,vK];refine(XQ hi hx L p hp M TV hTl hM hbt hbl hsl hcl).mono ?_;rintro _ h1 ⟨rfl,p',hp',rfl,hpe⟩;have hf:=wh (bs:=bs) (cs:=cs) (i:=p);have M':=M.keep (q:=(p':Int)) rfl;have es:sy bs cs ⟨(p:Int),0⟩=(⟨(p:Int)+(nxB bs cs p).2.2,if(nxB bs cs p).1=2 then 2 else if(nxB bs cs p).1=0 then 3 else 0⟩,(nxB bs cs p).2.1):=by unfold sy;rw[if_pos rfl];rfl
 rw[es];obtain⟨⟨x1,x2,x3⟩,hxx⟩:∃x,nxB bs cs p=x:=⟨_,rfl⟩;rw[hxx]at hf hpe ⊢;simp only at hf hpe ⊢;have ge:=G.sub M'.sb;refine⟨_,_,_,rfl,fun h1=>?_,fun h1=>⟨fun h2=>?_,fun h2=>?_⟩⟩
 ·obtain rfl:x1=0:=beq_iff_eq.1 h1;obtain⟨rfl,rfl⟩:x2=0/\x3=0:=by rcases hf with hf | hf <;> omega
  exact⟨3,ge.e3,rfl,p',hp',rfl,fun h=>by cases h⟩
 ·obtain rfl:x1=2:=beq_iff_eq.1 h2;obtain⟨rfl,rfl⟩:x2=0/\x3=0:=by rcases hf with hf | hf <;> omega
  exact⟨2,ge.e2,rfl,p',hp',rfl,fun h=>by cases h⟩
 ·have n0:x1≠0:=by simpa using h1
  have n2:x1≠2:=by simpa using h2
  obtain rfl:x1=1:=by rcases hf with hf | hf <;> omega
  exact⟨rfl,p',hp',rfl,fun _=>hpe rfl⟩
end
end
section
def cel(v:Value)(T:TypeId):Obj:=.cells #[v] T
theorem j4(hb:h b=some (cel v T)):zj h ⟨b,0,none⟩=some v:=by simp[zj,hb,cel]
theorem Dz(hb:h b=some (cel v T))(hs:¬S b):xE S h ⟨b,0,none⟩:=⟨⟨_,j4 hb⟩,by simp[yN,hb,cel],hs⟩
theorem jL{v w:Value}(hb:h b=some (cel v T)):zQ h ⟨b,0,none⟩ w=upd h b (cel w T):=by
 rw[hset_cells' hb];rfl
structure LS(h0 h:qaA)(b1 b2 bm:Nat)(a:Option Addr)(c:Nat)(bs:List Int)(m:MC)(T T1 T2:TypeId)(r:Rd):Prop where
 c1:h b1=some (cel (.pointer (some ⟨bm,0,none⟩)) T1)
 c2:h b2=some (cel (yh r.k) T2)
 mt:∃p':Nat,p'<=8*bs.length/\h bm=some (zX a c bs p' m T)/\(r.k=0->r.i=p')
 n1:h0 b1=none
 n2:h0 b2=none
 nm:h0 bm=none
 d12:b1≠b2
 d1m:b1≠bm
 d2m:b2≠bm
 sb:qaB h0 h
section
variable {m:MC}
theorem LS.sub(H:LS h0 h b1 b2 bm a c bs m T T1 T2 r)(s:qaB h h'):LS h0 h' b1 b2 bm a c bs m T T1 T2 r:=by
 obtain⟨p',h1,h2,h3⟩:=H.mt;exact⟨s _ _ H.c1,s _ _ H.c2,⟨p',h1,s _ _ h2,h3⟩,H.n1,H.n2,H.nm,H.d12,H.d1m,H.d2m,H.sb.trans s⟩
theorem LS.err(H:LS h0 h b1 b2 bm a c bs m T T1 T2 r){r':Rd}(hr:r'.k=0->r.k=0/\r'.i=r.i):LS h0 (upd h b2 (cel (yh r'.k) T2)) b1 b2 bm a c bs m T T1 T2 r':=by
 obtain⟨p',h1,h2,h3⟩:=H.mt;exact⟨(upd_ne H.d12).trans H.c1,upd_same,⟨p',h1,(upd_ne (Ne.symm H.d2m)).trans h2,fun h=>(hr h).2.trans (h3 (hr h).1)⟩,H.n1,H.n2,H.nm,H.d12,H.d1m,H.d2m,fun y o hy=>by rw[upd_ne (fun e=>by rw[e,H.n2]at hy;cases hy)];exact H.sb y o hy⟩
def Oth(b2 bm:Nat)(h h':qaA):Prop:=∀b,b≠bm->b≠b2->h' b=h b
theorem Oth.VW{v:Obj}:Oth b2 bm h (upd h b2 v):=fun b _ h2=>upd_ne h2
theorem Oth.VX{v:Obj}:Oth b2 bm h (upd h bm v):=fun b h1 _=>upd_ne h1
theorem Oth.trans{h1 h2:qaA}(H:Oth b2 bm h h1)(G:Oth b2 bm h1 h2):Oth b2 bm h h2:=fun b x y=>(G b x y).trans (H b x y)
theorem Ed(hi:qaC S h0)(G:Errs h0)(hx:zo h0 .u8 a bs)(L:bs.length<=1048576)(ok:okR bs r)(H:LS h0 h b1 b2 bm a c bs m T T1 T2 r)(n:Nat)(hn:n<=32) :
  zb oPP S yx #[.int .i64 n,.pointer (some ⟨b2,0,none⟩),.pointer (some ⟨b1,0,none⟩)] h (fun v h'=>v=.int .i64 (tk bs n r).2/\LS h0 h' b1 b2 bm a c bs m T T1 T2 (tk bs n r).1/\Oth b2 bm h h'):=by
 refine Dl (vs:=[.int .i64 n,.pointer (some ⟨b2,0,none⟩),.pointer (some ⟨b1,0,none⟩)]) ⟨rfl,rfl,rfl,trivial⟩ (hi.sub H.sb) ?_;simp only[Aa,Tr.wp,z4,Ex.ev,coerce,toInt_int,za,zf,zx,Cst.val,SV.den,zn,zL,zz,zk,zi,zy,zq,yk,vF,vG,vA,vB,vC,vD,vE,vI,vH,vJ,List.length_cons,List.length_nil,Nat.zero_add,Nat.add_zero,and_true,if_true,if_false,vK,zu];refine⟨yh r.k,zg,j4 H.c2,fun hz=>?_,fun hz _=>?_⟩
 ·rw[zg,zP]at hz;have hk:r.k=0:=of_decide_eq_true hz;obtain⟨p',hp,hm,he⟩:=H.mt;obtain⟨i,k⟩:=r;obtain rfl:k=0:=hk;obtain rfl:i=(p':Int):=he rfl;have hp2:∃p2:Nat,p2<=8*bs.length/\(tk bs n ⟨(p':Int),0⟩).1.i=p2:=by
   unfold tk;rw[if_pos rfl];split
   ·exact⟨p',hp,rfl⟩
   ·rename_i h;simp only at h;exact⟨p'+n,by omega,by simp only;omega⟩
  obtain⟨p2,hp2,e2⟩:=hp2;refine⟨_,j4 H.c1,(Jm hi G hx L p' hp n hn ⟨hm,H.nm,H.sb⟩).mono ?_⟩;rintro _ h1 ⟨rfl,rfl⟩;have hc2:=(upd_ne (o:=zX a c bs (tk bs n ⟨(p':Int),0⟩).1.i m T) H.d2m).trans H.c2;refine⟨_,yh _,zg,by rw[zg],Dz hc2 (fun hs=>hi b2 hs H.n2),fun _=>⟨rfl,?_,?_⟩⟩
  ·rw[zg,jL hc2];refine⟨(upd_ne H.d12).trans ((upd_ne H.d1m).trans H.c1),upd_same,⟨p2,hp2,by rw[<-e2];exact(upd_ne (Ne.symm H.d2m)).trans upd_same,fun _=>e2⟩,H.n1,H.n2,H.nm,H.d12,H.d1m,H.d2m,fun y o hy=>?_⟩;rw[upd_ne (fun e=>by rw[e,H.n2]at hy;cases hy),upd_ne (fun e=>by rw[e,H.nm]at hy;cases hy)];exact H.sb y o hy
  ·rw[zg,jL hc2];exact Oth.trans Oth.VX Oth.VW
 ·rw[zg,zP]at hz;have hk:r.k≠0:=of_decide_eq_false hz;have e:tk bs n r=(r,0):=by unfold tk;rw[if_neg hk]
  rw[e];exact⟨rfl,H,fun _ _ _=>rfl⟩
def mkL(h0:qaA)(l:List Nat):qaA:=fun z=>if z∈l then some (cel .nilIface 0)else h0 z
theorem Au{l:List Nat}:mkL h0 l z=none<->z∉l/\h0 z=none:=by
 unfold mkL;by_cases h:z∈l
 ·rw[if_pos h];simp[h]
 ·rw[if_neg h];simp[h]
abbrev mk2(h0:qaA)(b1 b2 bm:Nat):qaA:=mkL h0 [b1,b2,bm]
theorem qm(H:mk2 h0 b1 b2 bm z=none):z≠bm/\z≠b2/\z≠b1/\h0 z=none:=by
 obtain⟨h1,h2⟩:=Au.1 H;simp only[List.mem_cons,List.not_mem_nil,or_false,not_or]at h1;exact⟨h1.2.2,h1.2.1,h1.1,h2⟩
theorem Uh(h1:z≠bm)(h2:z≠b2)(h3:z≠b1)(H:h0 z=none):mk2 h0 b1 b2 bm z=none:=Au.2 ⟨by simp[h1,h2,h3],H⟩
theorem NM.base(N:qaD (mk2 h0 b1 b2 bm) v):qaD h0 v:=fun z hz=>(qm (N z hz)).2.2.2
theorem LS.free(H:LS h0 h b1 b2 bm a c bs m T T1 T2 r)(hz:h z=none):mk2 h0 b1 b2 bm z=none:=by
 obtain⟨p',_,h2,_⟩:=H.mt;exact Uh (fun e=>by rw[e,h2]at hz;cases hz) (fun e=>by rw[e,H.c2]at hz;cases hz) (fun e=>by rw[e,H.c1]at hz;cases hz) (ya H.sb hz)
theorem LS.new(H:LS h0 h b1 b2 bm a c bs m T T1 T2 r)(hz:h z=none):qaD (mk2 h0 b1 b2 bm) (.slice (some ⟨z,0,none⟩) l k):=New.of (H.free hz)
theorem LS.kept(H:LS h0 h b1 b2 bm a c bs m T T1 T2 r)(N:qaD (mk2 h0 b1 b2 bm) v)(hk:∀b,h b≠none->zh v≠some b->h' b=h b)(s:qaB h0 h'):LS h0 h' b1 b2 bm a c bs m T T1 T2 r:=by
 obtain⟨p',h1,h2,h3⟩:=H.mt;have e1:=hk b1 (by rw[H.c1];simp) fun e=>(qm (N b1 e)).2.2.1 rfl
 have e2:=hk b2 (by rw[H.c2];simp) fun e=>(qm (N b2 e)).2.1 rfl
 have e3:=hk bm (by rw[h2];simp) fun e=>(qm (N bm e)).1 rfl
 exact⟨e1.trans H.c1,e2.trans H.c2,⟨p',h1,e3.trans h2,h3⟩,H.n1,H.n2,H.nm,H.d12,H.d1m,H.d2m,s⟩
theorem NM.keep{k:IntKind}(N:qaD (mk2 h0 b1 b2 bm) v)(P:Part k h v xs)(O:Oth b2 bm h h'):Part k h' v xs:=P.keep fun z hz=>O z (qm (N z hz)).1 (qm (N z hz)).2.1
def Ag(h0:qaA)(bm:Nat)(a:Option Addr)(c:Nat)(bs:List Int)(m:MC)(T:TypeId)(F:Rd×List Int×List Int)(v:Value)(h':qaA):Prop:=
 ∃u w,v=.tuple #[u,w,yh F.1.k]/\(∃p':Nat,p'<=8*bs.length/\MAt h0 h' bm a c bs p' m T/\(F.1.k=0->F.1.i=p'))/\(F.1.k=0->Part .i64 h' u F.2.1/\Part .i64 h' w F.2.2/\qaD h0 u/\qaD h0 w)/\(∃a1 l1 c1 a2 l2 c2,u=.slice a1 l1 c1/\w=.slice a2 l2 c2)
theorem LS.bad(H:LS h0 h b1 b2 bm a c bs m T T1 T2 r)(hF:F.1.k≠0){e:Value}(he:e=yh F.1.k):Ag h0 bm a c bs m T F (.tuple #[.slice none 0 0,.slice none 0 0,e]) h:=by
 subst he;obtain⟨p',h1,h2,h3⟩:=H.mt;exact⟨_,_,rfl,⟨p',h1,⟨h2,H.nm,H.sb⟩,fun h=>absurd h hF⟩,fun h=>absurd h hF,⟨_,_,_,_,_,_,rfl,rfl⟩⟩
theorem LS.fail(hi:qaC S h0)(G:Errs h0)(H:LS h0 h b1 b2 bm a c bs m T T1 T2 r)(hF:F.1.k=3) :
  ∃x,zj h ⟨0,0,none⟩=some (Value.int .i64 x)/\xE S h ⟨b2,0,none⟩/\∃v,kv v=v/\zj (zQ h ⟨b2,0,none⟩ (.iface tCl (.agg (xS (.tuple (#[.int .i64 x]++xS (.tuple #[]))))))) ⟨b2,0,none⟩=some v /\
   Ag h0 bm a c bs m T F (.tuple #[.slice none 0 0,.slice none 0 0,kv v]) (zQ h ⟨b2,0,none⟩ (.iface tCl (.agg (xS (.tuple (#[.int .i64 x]++xS (.tuple #[]))))))):=by
 have e3:(.iface tCl (.agg (xS (.tuple (#[.int .i64 3]++xS (.tuple #[]))))):Value)=yh (3:Int):=rfl;have H':=H.err (r':=⟨0,3⟩) (fun h=>by cases h);refine⟨3,(G.sub H.sb).e3,Dz H.c2 (fun hs=>hi b2 hs H.n2),yh 3,zg,?_,?_⟩
 ·rw[e3,jL H.c2];exact j4 upd_same
 ·rw[e3,jL H.c2,zg];exact H'.bad (by omega) (by rw[hF])
theorem zao(hi:qaC S h0)(G:Errs h0)(H:LS h0 h b1 b2 bm a c bs m T T1 T2 r)(hk:r.k=0)(P:Part .i64 h (.slice aa all.length ca) all)(N:qaD (mk2 h0 b1 b2 bm) (.slice aa all.length ca)){x3:Int}(hx3:0<=x3/\x3<32)
  (hlen:(x3+257).toNat+1<=all.length/\all.length<=1000)(K0 K1 K2 K3 K4 K5:Kt)(e0 e1 e4 e5 e6 e7 e8 e9 e10 e11 e12 e13 e14:Value) :
  mlE.wp oPP S yb (Ag h0 bm a c bs m T (B9 (x3+257).toNat r all)) [e0,e1,.pointer (some ⟨b2,0,none⟩),.int .i64 x3,e4,e5,e6,e7,e8,e9,e10,e11,e12,e13,e14,.slice aa all.length ca] h [K0,K1,K2,K3,K4,K5]:=by
 obtain⟨n6,rfl⟩:=Int.eq_ofNat_of_zero_le hx3.1;have w6:IntKind.i64.wrap ((n6:Int)+257)=((n6+257:Nat):Int):=zr;have e6:((n6:Int)+257).toNat=n6+257:=by omega
 rw[e6]at hlen ⊢;simp only[mlE,Tr.wp,z4,Ex.ev,coerce,toInt_int,za,zc,ze,zd,zf,xg,jA,xW,jI,z9,arith,Cst.val,SV.den,zn,zL,zz,zk,zi,zy,zq,yk,vF,vG,vA,vB,decide_eq_true_eq,vD,vE,vI,vH,vJ,Nat.add_zero,and_true,if_false,vK,zu,w6];obtain⟨l1,l2⟩:=hlen;have e:B9 (n6+257) r all=(bd (FG (all.take (n6+257)) (all.drop (n6+257))) r,all.take (n6+257),all.drop (n6+257)):=if_pos hk;rw[e];obtain⟨_,_,ei,hca,gi⟩:=P.ints;cases ei
 obtain⟨aL,cL,eL,PL,NL,nL⟩:=P.FA N (n:=n6+257) (m:=n6+257) (by omega) (by omega) (by omega);obtain⟨aR,cR,eR,PR,NR⟩:=P.from N (n:=n6+257) (by omega) hca;rw[Int.toNat_natCast,eL,eR];have lL:(all.take (n6+257)).length=n6+257:=by rw[List.length_take];omega
 obtain⟨_,_,ei,_,gL⟩:=PL.ints;cases ei
 obtain⟨_,_,ei,_,gR⟩:=PR.ints;cases ei
 refine⟨by omega,by omega,by omega,by omega,by omega,by omega,?_⟩;refine(qL (hi.sub H.sb) aL cL _ gL).mono ?_;rintro _ hq ⟨rfl,rfl⟩;refine⟨_,rfl,?_⟩;refine(qL (hi.sub H.sb) aR cR _ gR).mono ?_;rintro _ hq ⟨rfl,rfl⟩;refine⟨_,rfl,?_⟩;have g256:(all.take (n6+257))[256]? = some ((all.take (n6+257)).getD 256 0):=by simp[List.getD,show 256<all.length by omega]
 obtain⟨g1,g2⟩:=gL.cell g256;have hbad:FG (all.take (n6+257)) (all.drop (n6+257))=((all.take (n6+257)).getD 256 0==0||(!(zt (all.take (n6+257))==1||zt (all.take (n6+257))==4)) || !(zt (all.drop (n6+257))==1||zt (all.drop (n6+257))==4||zt (all.drop (n6+257))==5)):=rfl;generalize FG (all.take (n6+257)) (all.drop (n6+257))=B at hbad ⊢;generalize (all.take (n6+257)).getD 256 0=y at g1 hbad;refine⟨by rw[zM,nL (by omega)];rfl,by simp,by simp only[zc,lL];omega,y,by simp only[zd,add_add];exact g1,?_⟩;clear gi g1 g256;refine⟨fun hb=>?_,fun hb=>?_⟩
 ·have hB:B=true:=by
   rw[hbad];simp only[bne,Bool.decide_eq_true]at hb;revert hb;cases (y==0) <;> cases (zt (all.take (n6+257))==1) <;> cases (zt (all.take (n6+257))==4) <;> cases (zt (all.drop (n6+257))==1) <;> cases (zt (all.drop (n6+257))==4) <;> cases (zt (all.drop (n6+257))==5) <;> simp
  subst hB;exact H.fail hi G (by simp[bd,hk])
 ·have hB:B=false:=by
   rw[hbad];simp only[bne,Bool.decide_eq_true]at hb;revert hb;cases (y==0) <;> cases (zt (all.take (n6+257))==1) <;> cases (zt (all.take (n6+257))==4) <;> cases (zt (all.drop (n6+257))==1) <;> cases (zt (all.drop (n6+257))==4) <;> cases (zt (all.drop (n6+257))==5) <;> simp
  subst hB;have H':=H.err (r':=r) (fun h=>⟨hk,rfl⟩);rw[hk,Uf]at H';refine⟨Dz H.c2 (fun hs=>hi b2 hs H.n2),.nilIface,rfl,?_,?_⟩
  ·rw[jL H.c2];exact j4 upd_same
  ·rw[jL H.c2];obtain⟨p',q1,q2,q3⟩:=H'.mt;have eb:bd false r=r:=by unfold bd;rw[if_neg (by simp)]
   rw[eb];refine⟨_,_,by rw[hk];rfl,⟨p',q1,⟨q2,H.nm,H'.sb⟩,q3⟩,fun _=>⟨NM.keep NL PL Oth.VW,NM.keep NR PR Oth.VW,NM.base NL,NM.base NR⟩,⟨_,_,_,_,_,_,rfl,rfl⟩⟩
end
end
section
section
variable {m:MC}{TT PP:List (Nat × Nat)}{cs:List (Nat × Nat)}
structure Tb(h0 h:qaA)(b1 b2 bm bt:Nat)(TT PP:List (Nat×Nat))(a2:Option Addr)(c2:Nat)(cs:List (Nat×Nat)):Prop where
 tv:TabV h0 h bt TT PP a2 c2 (Em cs cs.length) (Ym cs cs.length)
 dt:bt≠b1/\bt≠b2/\bt≠bm
 ds:∀z,zh (.slice a2 TT.length c2)=some z->z≠b1/\z≠b2/\z≠bm
abbrev mkT(h0:qaA)(b1 b2 bm bt:Nat)(a2:Option Addr)(n c2:Nat):qaA:=mkL h0 ([b1,b2,bm,bt]++(zh (.slice a2 n c2)).toList)
theorem D1:mkT h0 b1 b2 bm bt a2 n c2 z=none<->z≠b1/\z≠b2/\z≠bm/\z≠bt/\zh (.slice a2 n c2)≠some z/\h0 z=none:=by
 rw[Au];cases zh (.slice a2 n c2)with
 | none=>simp[and_assoc]
 | some y=>simp[and_assoc,eq_comm]
theorem VY(N:qaD (mkT h0 b1 b2 bm bt a2 n c2) v):qaD h0 v:=fun z hz=>(D1.1 (N z hz)).2.2.2.2.2
theorem CN(N:qaD (mkT h0 b1 b2 bm bt a2 n c2) v):qaD (mk2 h0 b1 b2 bm) v:=fun z hz=>by
 have:=D1.1 (N z hz);exact Uh this.2.2.1 this.2.1 this.1 this.2.2.2.2.2
theorem Tb.free(B:Tb h0 h b1 b2 bm bt TT PP a2 c2 cs)(H:LS h0 h b1 b2 bm a c bs m T T1 T2 r)(hz:h z=none):mkT h0 b1 b2 bm bt a2 TT.length c2 z=none:=by
 obtain⟨h1,h2,h3,h4⟩:=qm (H.free hz);refine D1.2 ⟨h3,h2,h1,fun e=>?_,fun e=>B.tv.ow.held z e hz,h4⟩;obtain⟨TY,hb⟩:=B.tv.hb;rw[e,hb]at hz;cases hz
theorem Tb.new(B:Tb h0 h b1 b2 bm bt TT PP a2 c2 cs)(H:LS h0 h b1 b2 bm a c bs m T T1 T2 r)(hz:h z=none):qaD (mkT h0 b1 b2 bm bt a2 TT.length c2) (.slice (some ⟨z,0,none⟩) l k):=New.of (B.free H hz)
theorem Tb.app(B:Tb h0 h b1 b2 bm bt TT PP a2 c2 cs)(H:LS h0 h b1 b2 bm a c bs m T T1 T2 r){v v':Value}(N:qaD (mkT h0 b1 b2 bm bt a2 TT.length c2) v)(hr:zh v'=zh v\/qaD h v'):qaD (mkT h0 b1 b2 bm bt a2 TT.length c2) v':=fun z hz=>by
 rcases hr with hr | hr
 ·exact N z (hr▸hz)
 ·exact B.free H (hr z hz)
theorem Tb.same(B:Tb h0 h b1 b2 bm bt TT PP a2 c2 cs)(h1:h' bt=h bt)(h2:∀z,zh (.slice a2 TT.length c2)=some z->h' z=h z)(s:qaB h0 h'):Tb h0 h' b1 b2 bm bt TT PP a2 c2 cs:=
 ⟨⟨by obtain⟨TY,hb⟩:=B.tv.hb;exact⟨TY,h1.trans hb⟩,B.tv.ow.keep h2,B.tv.nw,B.tv.nb,B.tv.ne,B.tv.ti,s⟩,B.dt,B.ds⟩
theorem Tb.sub(B:Tb h0 h b1 b2 bm bt TT PP a2 c2 cs)(s:qaB h h'):Tb h0 h' b1 b2 bm bt TT PP a2 c2 cs:=by
 refine B.same ?_ (fun z hz=>?_) (B.tv.sb.trans s)
 ·obtain⟨TY,hb⟩:=B.tv.hb;rw[hb];exact s _ _ hb
 ·have:=B.tv.ow.held z hz;cases e:h z with
  | none=>exact absurd e this
  | some o=>exact s _ _ e
theorem Tb.oth(B:Tb h0 h b1 b2 bm bt TT PP a2 c2 cs)(O:Oth b2 bm h h')(s:qaB h0 h'):Tb h0 h' b1 b2 bm bt TT PP a2 c2 cs:=
 B.same (O bt B.dt.2.2 B.dt.2.1) (fun z hz=>O z (B.ds z hz).2.2 (B.ds z hz).2.1) s
theorem Tb.kept(B:Tb h0 h b1 b2 bm bt TT PP a2 c2 cs)(N:qaD (mkT h0 b1 b2 bm bt a2 TT.length c2) v)(hk:∀b,h b≠none->zh v≠some b->h' b=h b)(s:qaB h0 h'):Tb h0 h' b1 b2 bm bt TT PP a2 c2 cs:=by
 refine B.same (hk bt ?_ fun e=>(D1.1 (N bt e)).2.2.2.1 rfl) (fun z hz=>hk z (B.tv.ow.held z hz) fun e=>(D1.1 (N z e)).2.2.2.2.1 hz) s;obtain⟨TY,hb⟩:=B.tv.hb;rw[hb];simp
theorem zap(hi:qaC S h0)(G:Errs h0)(H:LS h0 h b1 b2 bm a c bs m T T1 T2 r)(B:Tb h0 h b1 b2 bm bt TT PP a2 c2 cs)(P:Part .i64 h (.slice aa all.length ca) all)(N:qaD (mkT h0 b1 b2 bm bt a2 TT.length c2) (.slice aa all.length ca))(hl:all.length<=1000)(h3:n3<32)(h5:n5<32)(t:Nat)(ht:t<=1000)(w:Int)
  (hF:r.k≠0->F.1.k=r.k)(hover:r.k=0->n3+257+(n5+1)<all.length+t->F.1.k=3)(K0 K1 K2 K3 K4 K5 K6:Kt)
  (hgo:r.k=0->all.length+t<=n3+257+(n5+1)->∀a' c' h',LS h0 h' b1 b2 bm a c bs m T T1 T2 r->Tb h0 h' b1 b2 bm bt TT PP a2 c2 cs->Part .i64 h' (.slice a' (all++List.replicate t w).length c') (all++List.replicate t w)->qaD (mkT h0 b1 b2 bm bt a2 TT.length c2) (.slice a' (all++List.replicate t w).length c')->K4 [.slice a' (all++List.replicate t w).length c'] h')
  (e0 e1 e4 e6 e7 e8 e9 e10 e11 e12 e13 e14 e16 e17 e18:Value) :
  mlR.wp oPP S yb (Ag h0 bm a c bs m T F) [e0,e1,.pointer (some ⟨b2,0,none⟩),.int .i64 n3,e4,.int .i64 n5,e6,e7,e8,e9,e10,e11,e12,e13,e14,.slice aa all.length ca,e16,e17,e18,.int .i64 w,.int .i64 t] h [K0,K1,K2,K3,K4,K5,K6]:=by
 have w3:IntKind.i64.wrap ((n3:Int)+257)=((n3+257:Nat):Int):=zr;have w5:IntKind.i64.wrap ((n5:Int)+1)=((n5+1:Nat):Int):=zr;have wt:IntKind.i64.wrap (((n3+257:Nat):Int)+((n5+1:Nat):Int))=((n3+257+(n5+1):Nat):Int):=zr;have ws:IntKind.i64.wrap (((n3+257+(n5+1):Nat):Int)-(all.length:Int))=((n3+257+(n5+1):Nat):Int)-(all.length:Int):=i64_in _ (by omega);simp only[mlR,Tr.wp,Ex.ev,coerce,toInt_int,za,zc,ze,zd,zf,z9,arith,Cst.val,SV.den,zy,zV,zq,yk,vA,vB,vC,List.getElem?_cons_succ,decide_eq_true_eq,decide_eq_false_iff_not,vD,vE,vI,vH,Nat.add_zero,and_true,if_false,vK,zu,w3,w5,wt,ws];refine⟨yh r.k,zg,j4 H.c2,fun hz=>?_,fun hz=>⟨fun hgt=>?_,fun hle=>?_⟩⟩
 ·rw[zg,zP]at hz;have hk:r.k≠0:=by simpa using hz
  refine⟨yh r.k,zg,j4 H.c2,Dz H.c2 (fun hs=>hi b2 hs H.n2),yh r.k,zg,?_,?_⟩
  ·rw[zg,jL H.c2];exact j4 upd_same
  ·rw[zg,jL H.c2];have H':=H.err (r':=r) (fun h=>⟨h,rfl⟩);exact H'.bad (by rw[hF hk];exact hk) (by rw[hF hk])
 ·rw[zg,zP]at hz;have hk:r.k=0:=by simpa using hz
  exact H.fail hi G (hover hk (by omega))
 ·rw[zg,zP]at hz;have hk:r.k=0:=by simpa using hz
  have hle2:all.length+t<=n3+257+(n5+1):=by omega
  refine⟨fun us h'=>∃(i:Nat) (a':Option Addr) (c':Nat),us=[.slice a' (all++List.replicate i w).length c',.int .i64 i]/\i<=t/\Part .i64 h' (.slice a' (all++List.replicate i w).length c') (all++List.replicate i w)/\qaD (mkT h0 b1 b2 bm bt a2 TT.length c2) (.slice a' (all++List.replicate i w).length c')/\LS h0 h' b1 b2 bm a c bs m T T1 T2 r/\Tb h0 h' b1 b2 bm bt TT PP a2 c2 cs,
   fun us _=>t-(toInt (us.getD 1 undef)).toNat,⟨0,aa,ca,by simp,by omega,by simpa using P,by simpa using N,H,B⟩,?_⟩
  rintro a1 l1 c1 y h' ⟨i,a2',c2',hx1,hi2,P2,N2,H2,B2⟩;simp only[List.cons.injEq,Value.int.injEq,Value.slice.injEq,true_and,and_true]at hx1;obtain⟨⟨rfl,rfl,rfl⟩,rfl⟩:=hx1;refine⟨fun hlt b hnb=>?_,fun hge=>?_⟩
  ·have w2:IntKind.i64.wrap ((i:Int)+1)=((i+1:Nat):Int):=zr;have sb:qaB h' (upd h' b (.cells (ints .i64 [w]) 2)):=Sub.zC hnb;have H3:=H2.sub sb;have B3:=B2.sub sb;have hlen:(all++List.replicate i w).length=all.length+i:=by simp
   refine yA (xs:=all++List.replicate i w) (a:=some ⟨b,0,none⟩) (c:=1) hi H3.sb (P2.sub sb) (VY N2) (ys:=[w]) zo.new (by rw[hlen];simp only[List.length_singleton];omega) fun v' h3 o n3 s4 hk4 hr4=>?_
   have el:(all++List.replicate i w)++[w]=all++List.replicate (i+1) w:=by rw[List.append_assoc,List.replicate_succ']
   rw[el]at o;have N4:=B3.app H3 N2 hr4;have H4:=H3.kept (CN N2) hk4 s4;have B4:=B3.kept N2 hk4 s4;obtain⟨a4,c4,rfl,_,_⟩:=o.ints;simp only[zd,zc,ze,w2];exact⟨⟨i+1,a4,c4,rfl,by omega,o,N4,H4,B4⟩,by simp only[vB,vA,toInt_int,Int.toNat_natCast];omega⟩
  ·obtain rfl:i=t:=by omega
   exact hgo hk hle2 _ _ _ H2 B2 P2 N2
theorem zaq(hi:qaC S h0)(G:Errs h0)(hx:zo h0 .u8 a bs)(L:bs.length<=1048576)(H:LS h0 h b1 b2 bm a c bs m T T1 T2 r)(hk:r.k=0)(B:Tb h0 h b1 b2 bm bt TT PP a2 c2 cs)(hM:∀c∈cs,c.1<=15)(hTl:TT.length<=20000)(hcl:cs.length<=1000)
  (P:Part .i64 h (.slice aa all.length ca) all)(N:qaD (mkT h0 b1 b2 bm bt a2 TT.length c2) (.slice aa all.length ca))(h3:n3<32)(h5:n5<32)(hl:all.length<n3+257+(n5+1))
  (hF:(lg1 bs cs (n3+257+(n5+1)) r all).1.k≠0->F.1.k=(lg1 bs cs (n3+257+(n5+1)) r all).1.k)(K0 K1 K2 K3 K4 K5:Kt)
  (hgo:(lg1 bs cs (n3+257+(n5+1)) r all).1.k=0->∀a' c' h',LS h0 h' b1 b2 bm a c bs m T T1 T2 (lg1 bs cs (n3+257+(n5+1)) r all).1->Tb h0 h' b1 b2 bm bt TT PP a2 c2 cs->Part .i64 h' (.slice a' (lg1 bs cs (n3+257+(n5+1)) r all).2.length c') (lg1 bs cs (n3+257+(n5+1)) r all).2->qaD (mkT h0 b1 b2 bm bt a2 TT.length c2) (.slice a' (lg1 bs cs (n3+257+(n5+1)) r all).2.length c')->K4 [.slice a' (lg1 bs cs (n3+257+(n5+1)) r all).2.length c'] h')
  (e0 e4 e6 e7 e8 e9 e10 e11 e12 e14:Value) :
  mlB.wp oPP S yb (Ag h0 bm a c bs m T F) [e0,.pointer (some ⟨b1,0,none⟩),.pointer (some ⟨b2,0,none⟩),.int .i64 n3,e4,.int .i64 n5,e6,e7,e8,e9,e10,e11,e12,.pointer (some ⟨bt,0,none⟩),e14,.slice aa all.length ca] h [K0,K1,K2,K3,K4,K5]:=by
 simp only[mlB,Tr.wp,z4,Ex.ev,coerce,toInt_int,za,zc,ze,zd,zf,zx,zM,z9,arith,Cst.val,SV.den,zn,zL,zz,zk,zi,zy,zq,yk,vF,vG,vA,vB,vC,List.getElem?_cons_succ,decide_eq_true_eq,vD,vE,vI,vH,vJ,List.length_cons,List.length_nil,Nat.zero_add,Nat.add_zero,and_true,if_true,if_false,vK,zu];obtain⟨p',hp,hm,he⟩:=H.mt;obtain⟨i,k⟩:=r;obtain rfl:k=0:=hk;obtain rfl:i=(p':Int):=he rfl;refine⟨_,j4 H.c1,?_⟩;refine(MX hi G hx L p' hp ⟨hm,H.nm,H.sb⟩ B.tv hTl hM B.dt.2.2 (fun e=>(B.ds bm e).2.2 rfl) (OY _) hcl).mono ?_;rintro _ h1 ⟨rfl,p2,hp2,rfl,hpe⟩;have H1:∀r':Rd,r'.k=0->r'.i=(p2:Int)->LS h0 (upd h bm (zX a c bs p2 m T)) b1 b2 bm a c bs m T T1 T2 r':=fun r' q1 q2=>
  ⟨(upd_ne H.d1m).trans H.c1,by rw[q1];exact(upd_ne H.d2m).trans H.c2,⟨p2,hp2,upd_same,fun _=>q2⟩,H.n1,H.n2,H.nm,H.d12,H.d1m,H.d2m,fun y o hy=>by rw[upd_ne (fun e=>by rw[e,H.nm]at hy;cases hy)];exact H.sb y o hy⟩
 have B1:Tb h0 (upd h bm (zX a c bs p2 m T)) b1 b2 bm bt TT PP a2 c2 cs:=B.oth Oth.VX (H1 ⟨p2,0⟩ rfl rfl).sb;have P1:Part .i64 (upd h bm (zX a c bs p2 m T)) (.slice aa all.length ca) all:=NM.keep (CN N) P Oth.VX;generalize upd h bm (zX a c bs p2 m T)=h1 at H1 B1 P1 ⊢;obtain⟨tot,htot⟩:∃tot,tot=n3+257+(n5+1):=⟨_,rfl⟩;rw[<-htot]at hF hgo hl;have elg:lg1 bs cs tot ⟨(p':Int),0⟩ all=if(sy bs cs ⟨(p':Int),0⟩).1.k=0 then(bd (decide (tot<(rp bs (sy bs cs ⟨(p':Int),0⟩).1 all (sy bs cs ⟨(p':Int),0⟩).2).2.length)) (rp bs (sy bs cs ⟨(p':Int),0⟩).1 all (sy bs cs ⟨(p':Int),0⟩).2).1,(rp bs (sy bs cs ⟨(p':Int),0⟩).1 all (sy bs cs ⟨(p':Int),0⟩).2).2)else((sy bs cs ⟨(p':Int),0⟩).1,all):=rfl
 obtain⟨⟨r1,x⟩,hs⟩:∃q,sy bs cs ⟨(p':Int),0⟩=q:=⟨_,rfl⟩;rw[hs]at elg hpe ⊢;simp only at elg hpe ⊢;refine⟨x,yh r1.k,zg,by rw[zg],fun hz=>?_,fun hz=>?_⟩
 ·rw[zg,zP]at hz;have hk1:r1.k≠0:=by simpa using hz
  rw[if_neg hk1]at elg;rw[elg]at hF;have H2:=H1 ⟨p2,0⟩ rfl rfl;refine⟨Dz H2.c2 (fun hs=>hi b2 hs H.n2),yh r1.k,zg,?_,?_⟩
  ·rw[zg,jL H2.c2];exact j4 upd_same
  ·rw[zg,jL H2.c2];have H':=H2.err (r':=r1) (fun h=>absurd h hk1);exact H'.bad (by rw[hF hk1];exact hk1) (by rw[hF hk1])
 ·rw[zg,zP]at hz;have hk1:r1.k=0:=by simpa using hz
  rw[if_pos hk1]at elg;have H2:=H1 r1 hk1 (hpe hk1).symm;have ok1:okR bs r1:=fun _=>by rw[<-hpe hk1];omega
  have fin:∀(r2:Rd) (t:Nat) (w:Int) (h':qaA),rp bs r1 all x=(r2,if r2.k=0 then all++List.replicate t w else all)->t<=1000->LS h0 h' b1 b2 bm a c bs m T T1 T2 r2->Tb h0 h' b1 b2 bm bt TT PP a2 c2 cs->Part .i64 h' (.slice aa all.length ca) all->∀e16 e17 e18,
    mlR.wp oPP S yb (Ag h0 bm a c bs m T F) [e0,.pointer (some ⟨b1,0,none⟩),.pointer (some ⟨b2,0,none⟩),.int .i64 n3,e4,.int .i64 n5,e6,e7,e8,e9,e10,e11,e12,.pointer (some ⟨bt,0,none⟩),e14,.slice aa all.length ca,e16,e17,e18,.int .i64 w,.int .i64 t] h' [K0,K1,K2,K3,K4,K5,fun _ _=>False]:=by
   intro r2 t w h' erp ht H3 B3 P3 e16 e17 e18;rw[erp]at elg;simp only at elg;refine zap hi G H3 B3 P3 N (by omega) h3 h5 t ht w (fun hk2=>?_) (fun hk2 hov=>?_) K0 K1 K2 K3 K4 K5 _ (fun hk2 hle a' c' h'' H4 B4 P4 N4=>?_) _ _ _ _ _ _ _ _ _ _ _ _ _ _ _
   ·have e:bd (decide (tot<(if r2.k=0 then all++List.replicate t w else all).length)) r2=r2:=by unfold bd;rw[if_neg (fun h=>hk2 h.1)]
    rw[e]at elg;rw[elg]at hF;exact hF hk2
   ·have e:(bd (decide (tot<(if r2.k=0 then all++List.replicate t w else all).length)) r2).k=3:=by
     rw[if_pos hk2,decide_eq_true (by rw[List.length_append,List.length_replicate];omega)];unfold bd;rw[if_pos ⟨hk2,rfl⟩]
    rw[elg]at hF;rw[hF (by rw[e];decide),e]
   ·have e:lg1 bs cs tot ⟨(p':Int),0⟩ all=(r2,all++List.replicate t w):=by
     rw[elg,if_pos hk2,decide_eq_false (by rw[List.length_append,List.length_replicate];omega)];unfold bd;rw[if_neg (fun h=>by cases h.2)]
    rw[e]at hgo;exact hgo hk2 a' c' h'' H4 B4 P4 N4
  have n2:=yp (bs:=bs) (n:=2) (r:=r1);have nn3:=yp (bs:=bs) (n:=3) (r:=r1);have n7:=yp (bs:=bs) (n:=7) (r:=r1);have q2:(2:Int)^2=4:=by decide
  have q3:(2:Int)^3=8:=by decide
  have q7:(2:Int)^7=128:=by decide
  refine⟨fun h16=>⟨fun h0=>?_,fun h0=>?_⟩,fun h16=>⟨fun h17=>?_,fun h17=>⟨fun h18=>?_,fun h18 _ _ _=>?_⟩⟩⟩
  ·obtain rfl:x=16:=beq_iff_eq.1 h16;have hall:all.length=0:=by have:(all.length:Int)=0:=beq_iff_eq.1 h0;omega
   refine H2.fail hi G ?_;have e1:(rp bs r1 all 16).1.k=3:=by
    unfold rp;rw[if_pos rfl];have eb:bd (all.length==0) r1=⟨r1.i,3⟩:=by unfold bd;rw[if_pos ⟨hk1,by rw[hall];rfl⟩]
    rw[eb];unfold tk;rw[if_neg (by simp)]
   have e2:(lg1 bs cs tot ⟨(p':Int),0⟩ all).1.k=3:=by
    rw[elg];simp only;unfold bd;rw[if_neg (fun h=>by rw[e1]at h;cases h.1)];exact e1
   rw[hF (by rw[e2];decide),e2]
  ·obtain rfl:x=16:=beq_iff_eq.1 h16;have hall:all.length≠0:=fun e=>by rw[e]at h0;cases h0
   have wl:IntKind.i64.wrap ((all.length:Int)-1)=((all.length-1:Nat):Int):=zr;have wt:IntKind.i64.wrap ((tk bs 2 r1).2+3)=(((tk bs 2 r1).2+3).toNat:Int):=zr;obtain⟨_,_,ei,_,gi⟩:=P1.ints;cases ei
   have g? : all[all.length-1]? = some (all.getD (all.length-1) 0):=by simp[List.getD,List.getElem?_eq_getElem (show all.length-1<all.length by omega)]
   obtain⟨g1,g2⟩:=gi.cell g?;have eb:bd (all.length==0) r1=r1:=by unfold bd;rw[if_neg (fun h=>hall (by simpa using h.2))]
   rw[wl];refine⟨by simpa using g2,by omega,by omega,_,by simp only[Int.toNat_natCast,Nat.mul_one,add_add,Nat.add_zero];exact g1,?_⟩;refine(Ed hi G hx L ok1 H2 2 (by omega)).mono ?_;rintro _ h2 ⟨rfl,H3,O3⟩;have P3:=NM.keep (CN N) P1 O3;have B3:=B1.oth O3 H3.sb;refine⟨_,rfl,fun p hp=>?_,fun _=>?_⟩
   ·obtain rfl:=List.mem_singleton.1 hp;obtain⟨_,_,ei,_,gi3⟩:=P3.ints;cases ei
    obtain⟨g3,_⟩:=gi3.cell g?;simp only[Ex.ev,coerce,toInt_int,zc,ze,zd,zf,arith,Cst.val,vA,vB,wl,Int.toNat_natCast,Nat.mul_one];exact g3
   ·rw[wt];refine fin (tk bs 2 r1).1 _ _ h2 ?_ (by omega) H3 B3 P3 _ _ _;unfold rp;rw[if_pos rfl,eb]
  ·obtain rfl:x=17:=beq_iff_eq.1 h17;have wt:IntKind.i64.wrap ((tk bs 3 r1).2+3)=(((tk bs 3 r1).2+3).toNat:Int):=zr;refine(Ed hi G hx L ok1 H2 3 (by omega)).mono ?_;rintro _ h2 ⟨rfl,H3,O3⟩;refine⟨_,rfl,fun _ _=>?_⟩;rw[wt];refine fin (tk bs 3 r1).1 _ _ h2 ?_ (by omega) H3 (B1.oth O3 H3.sb) (NM.keep (CN N) P1 O3) _ _ _;unfold rp;rw[if_neg (by decide),if_pos rfl]
  ·obtain rfl:x=18:=beq_iff_eq.1 h18;have wt:IntKind.i64.wrap ((tk bs 7 r1).2+11)=(((tk bs 7 r1).2+11).toNat:Int):=zr;refine(Ed hi G hx L ok1 H2 7 (by omega)).mono ?_;rintro _ h2 ⟨rfl,H3,O3⟩;refine⟨_,rfl,fun _ _ _=>?_⟩;rw[wt];refine fin (tk bs 7 r1).1 _ _ h2 ?_ (by omega) H3 (B1.oth O3 H3.sb) (NM.keep (CN N) P1 O3) _ _ _;unfold rp;rw[if_neg (by decide),if_neg (by decide),if_pos rfl]
  ·refine fin r1 1 x h1 ?_ (by omega) H2 B1 P1 _ _ _;unfold rp;rw[if_neg (by simpa using h16),if_neg (by simpa using h17),if_neg (by simpa using h18)];rfl
end
end
section
section
variable {m:MC}
theorem MY(hok:hok xs):∀c∈zl xs,c.1<=15:=fun c hc=>by
 obtain⟨j,hj⟩:=List.getElem?_of_mem hc;have hj2:j<(yZ xs).length:=by rw[kC,<-xA];exact(List.getElem?_eq_some_iff.1 hj).1
 obtain⟨l,b,_,h2,h3,_⟩:=Bc hok (List.getElem?_eq_getElem hj2);rw[hj]at h2;have:=Option.some.inj h2;rw[this];exact h3
theorem zar(hi:qaC S h0)(G:Errs h0)(hx:zo h0 .u8 a bs)(L:bs.length<=1048576)(H:LS h0 h b1 b2 bm a c bs m T T1 T2 r){bc:Nat}{Tc:TypeId}(hbc:h bc=some (.cells (ints .i64 xs) Tc))(hxl:xs.length=19)(h3:n3<32)(h5:n5<32)
  (K0 K1:Kt)(e0 e4 e6 e7 e8 e10:Value) :
  mlC.wp oPP S yb (Ag h0 bm a c bs m T (B9 (n3+257) (lg bs (zl xs) (n3+257+(n5+1)) (bd (zt xs != 1) r) []).1 (lg bs (zl xs) (n3+257+(n5+1)) (bd (zt xs != 1) r) []).2)) [e0,.pointer (some ⟨b1,0,none⟩),.pointer (some ⟨b2,0,none⟩),.int .i64 n3,e4,.int .i64 n5,e6,e7,e8,.slice (some ⟨bc,0,none⟩) 19 19,e10] h [K0,K1]:=by
 have w3:IntKind.i64.wrap ((n3:Int)+257)=((n3+257:Nat):Int):=zr;have w5:IntKind.i64.wrap ((n5:Int)+1)=((n5+1:Nat):Int):=zr;have wt:IntKind.i64.wrap (((n3+257:Nat):Int)+((n5+1:Nat):Int))=((n3+257+(n5+1):Nat):Int):=zr;simp only[mlC,Tr.wp,z4,Ex.ev,coerce,toInt_int,za,zc,ze,zd,zf,zx,z9,arith,Cst.val,SV.den,zn,zL,zz,zk,zi,zy,zV,zq,yk,vF,vG,vA,vB,decide_eq_true_eq,decide_eq_false_iff_not,vD,vE,vI,vH,vJ,Nat.add_zero,and_true,if_false,vK,zu,w3,w5,wt];obtain⟨tot,htot⟩:∃tot,tot=n3+257+(n5+1):=⟨_,rfl⟩;rw[<-htot];have gi:zo h .i64 (some ⟨bc,0,none⟩) xs:=Kb hbc;refine⟨yh r.k,zg,j4 H.c2,fun hz=>?_,fun hz=>?_⟩
 ·rw[zg,zP]at hz;have hk:r.k≠0:=by simpa using hz
  have e1:bd (zt xs != 1) r=r:=by unfold bd;rw[if_neg (fun h=>hk h.1)]
  have e2:B9 (n3+257) (lg bs (zl xs) tot (bd (zt xs != 1) r) []).1 (lg bs (zl xs) tot (bd (zt xs != 1) r) []).2=(r,[],[]):=by
   rw[e1,yU (fun h=>hk h.1)];exact if_neg hk
  rw[e2];refine⟨yh r.k,zg,j4 H.c2,Dz H.c2 (fun hs=>hi b2 hs H.n2),yh r.k,zg,?_,?_⟩
  ·rw[zg,jL H.c2];exact j4 upd_same
  ·rw[zg,jL H.c2];have H':=H.err (r':=r) (fun h=>⟨h,rfl⟩);exact H'.bad hk rfl
 ·rw[zg,zP]at hz;have hk:r.k=0:=by simpa using hz
  have kh:=qL (S:=S) (hi.sub H.sb) (some ⟨bc,0,none⟩) 19 xs gi;rw[hxl]at kh;refine kh.mono ?_;rintro _ hq ⟨rfl,rfl⟩;refine⟨_,rfl,fun hne=>?_,fun heq=>?_⟩
  ·have hne:(zt xs != 1)=true:=hne;have e1:bd (zt xs != 1) r=⟨r.i,3⟩:=by unfold bd;rw[if_pos ⟨hk,hne⟩]
   have e2:B9 (n3+257) (lg bs (zl xs) tot (bd (zt xs != 1) r) []).1 (lg bs (zl xs) tot (bd (zt xs != 1) r) []).2=(⟨r.i,3⟩,[],[]):=by
    rw[e1,yU (fun h=>by cases h.1)];exact if_neg (by simp)
   rw[e2];exact H.fail hi G rfl
  ·have hk1:zt xs=1:=by simpa using heq
   have e1:bd (zt xs != 1) r=r:=by unfold bd;rw[if_neg (fun h=>by rw[hk1]at h;cases h.2)]
   rw[e1];obtain⟨_,hok⟩:=we (xs:=xs) (by rw[hk1];decide);have O:tI.O hq (.slice (some ⟨bc,0,none⟩) 19 19) xs:=Ka hbc hxl;have kt:=Cd (S:=S) (hi.sub H.sb) (some ⟨bc,0,none⟩) 19 xs (by rw[hxl];exact O) (by show List.length _<=_;omega) (by rw[hk1];decide);rw[hxl]at kt;refine kt.mono ?_;rintro _ h6 ⟨bt,TT,PP,a2,c2,rfl,TV,hTl⟩;have hcl:(zl xs).length=19:=by rw[xA,hxl]
   rw[<-hcl]at TV;have H6:=H.sub TV.sb;obtain⟨p',hp,hm,_⟩:=H.mt;have B6:Tb h0 h6 b1 b2 bm bt TT PP a2 c2 (zl xs):=⟨⟨TV.hb,TV.ow,fun y hy=>ya H.sb (TV.nw y hy),ya H.sb TV.nb,TV.ne,TV.ti,H.sb.trans TV.sb⟩,
    ⟨fun e=>(by have:=TV.nb;rw[e,H.c1]at this;cases this),fun e=>(by have:=TV.nb;rw[e,H.c2]at this;cases this),fun e=>(by have:=TV.nb;rw[e,hm]at this;cases this)⟩,
    fun z hz=>⟨fun e=>(by have:=TV.nw z hz;rw[e,H.c1]at this;cases this),fun e=>(by have:=TV.nw z hz;rw[e,H.c2]at this;cases this),fun e=>(by have:=TV.nw z hz;rw[e,hm]at this;cases this)⟩⟩
   refine⟨_,rfl,?_⟩;intro b hb;have sb:qaB h6 (upd h6 b (.cells (ints .i64 []) 2)):=Sub.zC hb;refine⟨fun us h'=>∃(r':Rd) (all':List Int) (a':Option Addr) (c':Nat),us=[.slice a' all'.length c']/\r'.k=0/\LS h0 h' b1 b2 bm a c bs m T T1 T2 r'/\Tb h0 h' b1 b2 bm bt TT PP a2 c2 (zl xs)/\Part .i64 h' (.slice a' all'.length c') all'/\qaD (mkT h0 b1 b2 bm bt a2 TT.length c2) (.slice a' all'.length c')/\all'.length<=tot/\lg bs (zl xs) tot r []=lg bs (zl xs) tot r' all',
    fun us _=>tot-slL (us.getD 0 undef),⟨r,[],_,_,rfl,hk,H6.sub sb,B6.sub sb,(Own.made (k:=.i64) (h:=h6) (b:=b) (T:=2) []).part,B6.new H6 hb,by simp,rfl⟩,?_⟩
   rintro a1 l1 c1 h' ⟨r',all',a',c',hx1,hk',H',B',P',N',hl',hlg⟩;simp only[List.cons.injEq,Value.slice.injEq,and_true]at hx1;obtain⟨rfl,rfl,rfl⟩:=hx1;rw[hlg];refine⟨fun hlt=>?_,fun hge=>?_⟩
   ·have hlt:all'.length<n3+257+(n5+1):=by omega
    have len:=A8 (bs:=bs) (cs:=zl xs) (tot:=tot) (r:=r') (all:=all');have st:=A9 (bs:=bs) (cs:=zl xs) (tot:=tot) (r:=r') (all:=all') ⟨hk',by omega⟩;rw[st];refine zaq hi G hx L H' hk' B' (MY hok) hTl (by omega) P' N' h3 h5 hlt (fun hk2=>?_) K0 K1 _ _ _ _ (fun hk2 a' c' h'' H2 B2 P2 N2=>?_) _ _ _ _ _ _ _ _ _ _
    ·rw[<-htot]at hk2 ⊢;rw[yU (fun h=>hk2 h.1)];have e3:B9 (n3+257) (lg1 bs (zl xs) tot r' all').1 (lg1 bs (zl xs) tot r' all').2=((lg1 bs (zl xs) tot r' all').1,[],[]):=if_neg hk2;rw[e3]
    ·rw[<-htot]at hk2 H2 P2 N2 ⊢;exact⟨⟨_,_,a',c',rfl,hk2,H2,B2,P2,N2,(len.2.2 hk2).2,rfl⟩,by simp only[vA,zc];have:=len.2.2 hk2;omega⟩
   ·have hnl:¬(r'.k=0/\all'.length<tot):=fun h=>hge (by omega)
    rw[yU hnl];have e6:((n3:Int)+257).toNat=n3+257:=by omega
    have K:=zao hi G H' hk' P' (CN N') (x3:=(n3:Int)) ⟨by omega,by omega⟩ (by omega) K0 K1;rw[e6]at K;exact K _ _ _ _ _ _ _ _ _ _ _ _ _ _ _ _ _
theorem Zl(e3:(tk bs 5 r0).2=(n3:Int))(e5:(tk bs 5 (yJ bs r0)).2=(n5:Int)) :
  B9 (n3+257) (lg bs (zl (yv bs r0).2) (n3+257+(n5+1)) (bd (zt (yv bs r0).2 != 1) (yv bs r0).1) []).1 (lg bs (zl (yv bs r0).2) (n3+257+(n5+1)) (bd (zt (yv bs r0).2 != 1) (yv bs r0).1) []).2=zN bs r0:=by
 have h1:w7 bs r0=n3+257:=by unfold w7;rw[e3];omega
 have h2:Bd bs r0=n5+1:=by unfold Bd;rw[e5];omega
 have:zN bs r0=B9 (w7 bs r0) (xi bs r0).1 (xi bs r0).2:=rfl;rw[this];unfold xi jT;rw[h1,h2]
theorem zas(hi:qaC S h0)(G:Errs h0)(hx:zo h0 .u8 a bs)(L:bs.length<=1048576)(ok:okR bs r0)(H:LS h0 h b1 b2 bm a c bs m T T1 T2 (y9 bs r0))(e3:(tk bs 5 r0).2=(n3:Int))(e5:(tk bs 5 (yJ bs r0)).2=(n5:Int))
  (e0 e4 e6:Value) :
  ml3.wp oPP S yb (Ag h0 bm a c bs m T (zN bs r0)) [e0,.pointer (some ⟨b1,0,none⟩),.pointer (some ⟨b2,0,none⟩),.int .i64 n3,e4,.int .i64 n5,e6] h []:=by
 obtain⟨ok0,ok1,ok2,ok3,ok4⟩:=Fg ok;have n1:=yp (bs:=bs) (n:=5) (r:=r0);have n2:=yp (bs:=bs) (n:=5) (r:=yJ bs r0);have nn:=yp (bs:=bs) (n:=4) (r:=y9 bs r0);have q5:(2:Int)^5=32:=by decide
 have q4:(2:Int)^4=16:=by decide
 have w3:IntKind.i64.wrap ((tk bs 4 (y9 bs r0)).2+4)=(((tk bs 4 (y9 bs r0)).2.toNat+4:Nat):Int):=zr;simp only[ml3,Tr.wp,Fx,z4,Ex.ev,coerce,toInt_int,za,zc,zd,zf,zM,z9,arith,Cst.val,SV.den,zn,zL,zz,zk,zi,yF,zy,zV,zq,vF,vG,vA,vB,vC,decide_eq_true_eq,decide_eq_false_iff_not,vD,vE,vI,vH,vJ,Nat.zero_add,Nat.add_zero,and_true,if_false,vK,zu];refine(Ed hi G hx L ok1 H 4 (by omega)).mono ?_;rintro _ h1 ⟨rfl,H1,O1⟩;refine⟨_,rfl,?_⟩;rw[w3];intro b8 hb8;have w19:IntKind.i64.wrap 19=19:=i64_in _ (by omega);have t19:(19:Int).toNat=19:=rfl;have hs8:¬S b8:=fun hs=>hi b8 hs (ya H1.sb hb8)
 refine Et hs8 _ 0 _ _ upd_same (by simp) ?_;rw[xw,w19,t19];obtain⟨T8,hT8⟩:∃T8:TypeId,T8=157:=⟨_,rfl⟩;obtain⟨h2,hh2⟩:∃h2,h2=upd h1 b8 (.cells (ints .i64 (ord.map Int.ofNat)) 157):=⟨_,rfl⟩;have eo:upd h1 b8 (.cells (kO (List.replicate 19 (Value.int .i64 0)) (0+0) [Value.int .i64 16,Value.int .i64 17,Value.int .i64 18,Value.int .i64 0,Value.int .i64 8,Value.int .i64 7,Value.int .i64 9,Value.int .i64 6,Value.int .i64 10,Value.int .i64 5,Value.int .i64 11,Value.int .i64 4,Value.int .i64 12,Value.int .i64 3,Value.int .i64 13,Value.int .i64 2,Value.int .i64 14,Value.int .i64 1,Value.int .i64 15]).toArray 157)=h2:=by rw[hh2];rfl
 rw[eo];have s2:qaB h1 h2:=by rw[hh2];exact Sub.zC hb8
 have h28:h2 b8=some (.cells (ints .i64 (ord.map Int.ofNat)) 157):=by rw[hh2,upd_same]
 have H2:=H1.sub s2;clear eo hh2 hT8;refine⟨by omega,by omega,by decide,fun b hb=>?_⟩;rw[Nat.mul_one,AJ];have sb:qaB h2 (upd h2 b (.cells (ints .i64 (List.replicate 19 0)) 2)):=Sub.zC hb;have hne8:b8≠b:=fun e=>by rw[<-e,h28]at hb;cases hb
 have N:qaD (mk2 h0 b1 b2 bm) (.slice (some ⟨b,0,none⟩) 19 19):=H2.new hb;obtain⟨nb1,nb2,nb3,nb4⟩:=qm (N b rfl);have N8:=H1.free hb8;obtain⟨n81,n82,n83,_⟩:=qm N8;have hsb:¬S b:=fun hs=>hi b hs nb4
 generalize hr2:(tk bs 4 (y9 bs r0)).1=r2 at H1 H2;generalize hn:(tk bs 4 (y9 bs r0)).2.toNat+4=n;have hn19:n<=19:=by omega
 have okr2:okR bs r2:=hr2▸y7 ok1;refine⟨fun us h'=>∃(j:Nat),us=[.int .i64 j]/\j<=n/\h' b=some (.cells (ints .i64 (sm bs r2 j).2) 2)/\h' b8=some (.cells (ints .i64 (ord.map Int.ofNat)) 157)/\LS h0 h' b1 b2 bm a c bs m T T1 T2 (sm bs r2 j).1,fun us _=>n-(toInt (us.getD 0 undef)).toNat,⟨0,rfl,by omega,upd_same,(upd_ne hne8).trans h28,H2.sub sb⟩,?_⟩;rintro y h' ⟨j,hx1,hj,hbj,h8j,HJ⟩;simp only[List.cons.injEq,Value.int.injEq,true_and,and_true]at hx1;subst hx1;have okj:okR bs (sm bs r2 j).1:=K8 okr2;refine⟨fun hlt=>?_,fun hge=>?_⟩
 ·have hjn:j<n:=by omega
  have hol:=Ue j (by omega);have hc8:∀ {g:qaA},g b8=some (.cells (ints .i64 (ord.map Int.ofNat)) 157)->Eng.zj g ⟨b8,(j:Int).toNat*1,none⟩=some (.int .i64 ((ord.getD j 0:Nat):Int)):=fun hg=>by
   simp only[Eng.zj,hg,Int.toNat_natCast,Nat.mul_one];simp[Eng.ints,-List.map_map,QY (show j<19 by omega)]
  refine⟨by omega,by omega,_,hc8 h8j,?_⟩;refine(Ed hi G hx L okj HJ 3 (by omega)).mono ?_;rintro _ h3 ⟨rfl,H3,O3⟩;have h83:=(O3 b8 n81 n82).trans h8j;have hb3:=(O3 b nb1 nb2).trans hbj;refine⟨_,rfl,fun p hp=>?_,rfl,by omega,by omega,?_⟩
  ·obtain rfl:=List.mem_singleton.1 hp;simp only[Ex.ev,coerce,toInt_int,zf,vA,vB,yR];exact hc8 h83
  ·rw[Int.toNat_natCast];refine OS (i:=ord.getD j 0) hb3 hsb (by rw[Hp];exact hol) ?_;rw[show IntKind.i64.wrap ((j:Int)+1)=((j+1:Nat):Int) by rw[i64_in _ (by omega)];omega];refine⟨⟨j+1,rfl,by omega,upd_same,(upd_ne hne8).trans h83,?_⟩,by simp only[vA,toInt_int,Int.toNat_natCast];omega⟩;refine H3.kept N (fun y hy hn=>upd_ne fun e=>hn (by rw[e];rfl)) fun y o hy=>?_
   rw[upd_ne (fun e=>by rw[e,nb4]at hy;cases hy)];exact H3.sb y o hy
 ·obtain rfl:j=n:=by omega
  have e2:sm bs r2 j=yv bs r0:=by unfold yv;rw[hr2,hn]
  rw[e2]at hbj HJ;have hsl:(yv bs r0).2.length=19:=by unfold yv;exact Hp
  rw[<-Zl e3 e5];exact zar hi G hx L HJ hbj hsl (by omega) (by omega) _ _ _ _ _ _ _ _
theorem LS.Zm(hi:qaC S h0)(G:Errs h0)(H:LS h0 h b1 b2 bm a c bs m T T1 T2 r){K:qaA->Prop}
  (hK:∀h',LS h0 h' b1 b2 bm a c bs m T T1 T2 (bd w r)->K h') :
  ((x7 (kv (yh r.k))&&w)=true->∃x,zj h ⟨0,0,none⟩=some (Value.int .i64 x)/\xE S h ⟨b2,0,none⟩/\K (zQ h ⟨b2,0,none⟩ (.iface tCl (.agg (xS (.tuple (#[.int .i64 x]++xS (.tuple #[])))))))) /\
  ((x7 (kv (yh r.k))&&w)=false->K h):=by
 rw[zg,zP];refine⟨fun hy=>?_,fun hn=>?_⟩
 ·simp only[Bool.and_eq_true,decide_eq_true_eq]at hy;have e:bd w r=⟨r.i,3⟩:=by unfold bd;rw[if_pos hy]
  have e3:(.iface tCl (.agg (xS (.tuple (#[.int .i64 3]++xS (.tuple #[]))))):Value)=yh (3:Int):=rfl;refine⟨3,(G.sub H.sb).e3,Dz H.c2 (fun hs=>hi b2 hs H.n2),?_⟩;rw[e3,jL H.c2];rw[e]at hK;exact hK _ (H.err (r':=⟨r.i,3⟩) (fun h=>by cases h))
 ·have e:bd w r=r:=by
   unfold bd;rw[if_neg (fun h=>by rw[decide_eq_true h.1,h.2]at hn;cases hn)]
  rw[e]at hK;exact hK _ H
theorem WX(hi:qaC S h0)(G:Errs h0)(hx:zo h0 .u8 a bs)(L:bs.length<=1048576)(ok:okR bs r0)(H:LS h0 h b1 b2 bm a c bs m T T1 T2 (tk bs 5 (yJ bs r0)).1)(e3:(tk bs 5 r0).2=(n3:Int))(e5:(tk bs 5 (yJ bs r0)).2=(n5:Int))
  (e0 e4:Value) :
  ml2.wp oPP S yb (Ag h0 bm a c bs m T (zN bs r0)) [e0,.pointer (some ⟨b1,0,none⟩),.pointer (some ⟨b2,0,none⟩),.int .i64 n3,e4,.int .i64 n5,yh (tk bs 5 (yJ bs r0)).1.k] h []:=by
 have n2:=yp (bs:=bs) (n:=5) (r:=yJ bs r0);have q5:(2:Int)^5=32:=by decide
 have w5:IntKind.i64.wrap ((n5:Int)+1)=(n5:Int)+1:=i64_in _ (by omega);simp only[ml2,Tr.wp,Ex.ev,coerce,toInt_int,za,zf,xg,z9,arith,Cst.val,zy,zq,yk,vA,vB,vC,vD,vE,vI,vH,Nat.add_zero,and_true,zu,w5];have:=LS.Zm hi G H (w:=decide ((n5:Int)+1>30)) (K:=fun h'=>ml3.wp oPP S yb (Ag h0 bm a c bs m T (zN bs r0)) [e0,.pointer (some ⟨b1,0,none⟩),.pointer (some ⟨b2,0,none⟩),.int .i64 n3,e4,.int .i64 n5,yh (tk bs 5 (yJ bs r0)).1.k] h' [])
  (fun h' H'=>by
   rw[<-e5]at H'
   exact zas hi G hx L ok H' e3 e5 _ _ _)
 rw[Bool.decide_eq_true];refine⟨fun hy=>?_,fun hn _=>this.2 hn⟩;obtain⟨x,q1,q2,q3⟩:=this.1 hy;exact⟨x,q1,q2,fun _=>q3⟩
theorem zat(hi:qaC S h0)(G:Errs h0)(hx:zo h0 .u8 a bs)(L:bs.length<=1048576)(ok:okR bs r0)(H:LS h0 h b1 b2 bm a c bs m T T1 T2 (tk bs 5 r0).1)(e3:(tk bs 5 r0).2=(n3:Int))(e0:Value) :
  ml1.wp oPP S yb (Ag h0 bm a c bs m T (zN bs r0)) [e0,.pointer (some ⟨b1,0,none⟩),.pointer (some ⟨b2,0,none⟩),.int .i64 n3,yh (tk bs 5 r0).1.k] h []:=by
 obtain⟨ok0,ok1,ok2,ok3,ok4⟩:=Fg ok;have n1:=yp (bs:=bs) (n:=5) (r:=r0);have n2:=yp (bs:=bs) (n:=5) (r:=yJ bs r0);have q5:(2:Int)^5=32:=by decide
 have w3:IntKind.i64.wrap ((n3:Int)+257)=(n3:Int)+257:=i64_in _ (by omega);obtain⟨n5,e5⟩:=Int.eq_ofNat_of_zero_le n2.1;simp only[ml1,Tr.wp,z4,Ex.ev,coerce,toInt_int,za,zf,xg,z9,arith,Cst.val,SV.den,zn,zL,zz,zk,zi,zy,zq,yk,vF,vG,vA,vB,vC,vD,vE,vI,vH,vJ,Nat.add_zero,and_true,if_false,vK,zu,w3];obtain⟨t1,t2⟩:=LS.Zm hi G H (w:=decide ((n3:Int)+257>286)) (K:=fun h'=>LS h0 h' b1 b2 bm a c bs m T T1 T2 (bd (decide ((n3:Int)+257>286)) (tk bs 5 r0).1)) (fun _ h=>h);have el:bd (decide ((n3:Int)+257>286)) (tk bs 5 r0).1=yJ bs r0:=by rw[<-e3];rfl
 rw[el]at t1 t2;rw[Bool.decide_eq_true];refine⟨fun hy=>?_,fun hn _=>?_⟩
 ·obtain⟨x,q1,q2,q3⟩:=t1 hy;refine⟨x,q1,q2,fun _=>?_⟩;refine(Ed hi G hx L ok0 q3 5 (by omega)).mono ?_;rintro _ h1 ⟨rfl,H1,O1⟩;refine⟨_,rfl,yh _,zg,j4 H1.c2,?_⟩;rw[e5];exact WX hi G hx L ok H1 e3 e5 _ _
 ·have q3:=t2 hn;refine(Ed hi G hx L ok0 q3 5 (by omega)).mono ?_;rintro _ h1 ⟨rfl,H1,O1⟩;refine⟨_,rfl,yh _,zg,j4 H1.c2,?_⟩;rw[e5];exact WX hi G hx L ok H1 e3 e5 _ _
theorem XR(hi:qaC S h0)(G:Errs h0)(hx:zo h0 .u8 a bs)(L:bs.length<=1048576)(p:Nat)(hp:p<=8*bs.length)(M:MAt h0 h bm a c bs p m T) :
  zb oPP S qg #[.pointer (some ⟨bm,0,none⟩)] h (Ag h0 bm a c bs m T (zN bs ⟨p,0⟩)):=by
 refine Ez (vs:=[.pointer (some ⟨bm,0,none⟩)]) ⟨rfl,trivial⟩ (hi.sub M.sb) ?_;simp only[AU,Tr.wp,z4,Ex.ev,coerce,toInt_int,zf,zx,Cst.val,SV.den,zn,zL,zz,zk,zi,yF,zy,zq,vF,vG,List.replicate_one,vA,vB,vD,vE,vI,vH,vJ,Nat.add_zero,and_true,if_false,vK,zu];intro b1 hb1 b2 hb2;have ok:okR bs ⟨(p:Int),0⟩:=fun _=>⟨by simp only;omega,by simp only;omega⟩
 have d12:b1≠b2:=fun e=>by rw[<-e,upd_same]at hb2;cases hb2
 have d1m:b1≠bm:=fun e=>by rw[e,M.hb]at hb1;cases hb1
 have hb2':h b2=none:=by rw[upd_ne (Ne.symm d12)]at hb2;exact hb2
 have d2m:b2≠bm:=fun e=>by rw[e,M.hb]at hb2';cases hb2'
 have H:LS h0 (upd (upd h b1 (.cells #[.pointer (some ⟨bm,0,none⟩)] 41)) b2 (.cells #[.nilIface] 48)) b1 b2 bm a c bs m T 41 48 ⟨(p:Int),0⟩:=
  ⟨(upd_ne d12).trans upd_same,upd_same,⟨p,hp,(upd_ne (Ne.symm d2m)).trans ((upd_ne (Ne.symm d1m)).trans M.hb),fun _=>rfl⟩,ya M.sb hb1,ya M.sb hb2',M.nb,d12,d1m,d2m,M.sb.trans ((Sub.zC hb1).trans (Sub.zC hb2))⟩
 have n1:=yp (bs:=bs) (n:=5) (r:=⟨(p:Int),0⟩);obtain⟨n3,e3⟩:=Int.eq_ofNat_of_zero_le n1.1;refine(Ed hi G hx L ok H 5 (by omega)).mono ?_;rintro _ h1 ⟨rfl,H1,O1⟩;refine⟨_,rfl,yh _,zg,j4 H1.c2,?_⟩;rw[e3];exact zat hi G hx L ok H1 e3 _
end
end
end
end
end Go.Proofs.YtopmdepgpabipaaGreatDoor
section
namespace Go.Proofs.YtopmdepgpabipaaGreatDoor
open Go Go.Eng Go.ChangeShapes Go.WideShapes Go.ChangeAt Go.RowKit
theorem zaN:oPP.globalNamed "errors.errorType" = some 4:=by kernel_rfl
theorem zaO:(oPP.cutTypes.find? (·.1 == "internal/reflectlite.rtype")).map (·.2)=some tRt:=by kernel_rfl
theorem VZ:((List.range oPP.types.size).filter fun t=>oPP.rowNamed t [101,114,114,111,114])=[tEr]:=by kernel_rfl
theorem zaP:oPP.globalNamed "loop.example/s02972/impl.errShort" = some 3:=by kernel_rfl
theorem zaQ:oPP.globalNamed "loop.example/s02972/impl.errBad" = some 0:=by kernel_rfl
theorem zaR:oPP.globalNamed "loop.example/s02972/impl.errLarge" = some 5:=by kernel_rfl
theorem zau:(oPP.globals[(3:Nat)]?).map (·.type)=some tCl:=by kernel_rfl
theorem zav:(oPP.globals[(0:Nat)]?).map (·.type)=some tCl:=by kernel_rfl
theorem zaw:(oPP.globals[(5:Nat)]?).map (·.type)=some tCl:=by kernel_rfl
variable {W:World}
theorem Qz{hs:List (String×DataW Unit)}(h:handlesMet oPP (("errors.errorType",Rows.laid_errors_errorType)::hs) W):Cv (kF W):=by
 obtain⟨name,u,ty,e1,e2,e3,e4,e5⟩:=h _ List.mem_cons_self;have en:name=[101,114,114,111,114]:=(Option.some.inj e1).symm;subst en;obtain rfl:=Option.some.inj (zaO.symm.trans e2);have hm:ty∈(List.range oPP.types.size).filter fun t=>oPP.rowNamed t [101,114,114,111,114]:=List.mem_filter.2 ⟨List.mem_range.2 e3,e4⟩
 rw[VZ]at hm;obtain rfl:=List.mem_singleton.1 hm;have hh:typeHandle oPP tEr=hdl tEr:=by kernel_rfl
 rw[hh]at e5;have:=World.var?_cell zaN e5 0;exact this
theorem zaS:oPP.cellsOf tCl=1:=by kernel_rfl
theorem zax:oPP.cellsOf 2=1:=by kernel_rfl
theorem Ce{n:String}{g:Nat}{k:Int}(hg:oPP.globalNamed n=some g)(ht:(oPP.globals[g]?).map (·.type)=some tCl){l:List (String×DataW Unit)}{ps:List MemPlace}
  (h:DataW.LaidVars oPP W ((n,.agg [.lit (.int .i64 k)])::l) ps):zj (kF W) ⟨g,0,none⟩=some (.int .i64 k)/\∃q,DataW.LaidVars oPP W l q:=by
 obtain⟨g',t,cs,fuel,p,q,h1,h2,h3,h4,h5,_⟩:=h;obtain rfl:=Option.some.inj (hg.symm.trans h1);obtain rfl:=Option.some.inj (ht.symm.trans h2);obtain⟨y0,m,hx,hl,hy⟩:=trod_struct1 Tryz.underlying85 h4;rw[zaS]at hl;obtain⟨cs⟩:=cs
 match cs,hl with
 | [c0],_=>
  have hy':DataW.trod (fun _=>()) oPP W 0 (fun _=>true) false m 2 [c0]=some y0:=by
   simpa[zax]using hy
  obtain⟨z,e1,e2,_⟩:=DataW.trod_int Tryz.underlying2 hy';have e1:c0=.int .i64 z:=by simpa using e1
  subst e1;subst e2;simp only[Prod.mk.injEq,DataW.agg.injEq,List.cons.injEq,DataW.lit.injEq,Lit.int.injEq,true_and,and_true]at hx;refine⟨?_,q,h5⟩;have:=World.var?_cell hg h3 0;rw[hx.1];exact this
noncomputable def Ui(os:Os):World:=
 let w0:=World.holding oPP os ⟨#[],#[],[]⟩
 let put (g:Nat) (v:Value) (hp:Array Obj):Array Obj:=hp.modify g fun
   | .cells _ t frozen=>.cells #[v] t frozen
   | o=>o
 { w0 with heap:=put 4 (rty tEr) (put 3 (.int .i64 2) (put 0 (.int .i64 3) (put 5 (.int .i64 6) w0.heap))) }
theorem Hs{H:Type}{enc:TypeId×Value->H}{P:Program}{w:World}{spare:Nat->Bool}:∀ {ns:List String} {gs:List (DataW H)} {ps:List MemPlace},DataW.TrodVars enc P w spare ns gs ps->gs.length=ns.length
 | [],[],_,_=>rfl
 | [],_::_,_,h=>h.elim
 | _::_,[],_,h=>h.elim
 | n::ns,d::ds,ps,h=>by
  obtain⟨g,t,cs,fuel,p,q,h1,h2,h3,h4,hs,e⟩:=h;rw[List.length_cons,List.length_cons,Hs hs]
end Go.Proofs.YtopmdepgpabipaaGreatDoor
end
namespace Go.Proofs.YtopmdepgpabipaaGreatDoor
open Go Go.Eng Go.IntWalk
section
variable {h:qaA}{v w:Value}{xs:List Int}{S:Shared}
section
abbrev tB:Ty Value (List Int):=YX .u8
def smB(xs:List Int):Prop:=xs.length<=1099511627776
def Bf(xs:List Int):Prop:=xs.length<=1048576
theorem So(H:tB.R h v xs):∃a c,v=.slice a xs.length c:=by obtain⟨a,c,rfl,_⟩:=H;exact⟨a,c,rfl⟩
end
variable {x:Int}{b c i n:Nat}{bs out:List Int}{a:Option Addr}{h0 h1:qaA}{T:TypeId}
section
def bitsOf(x:Int)(n:Nat):List Int:=(List.range n).map fun i=>x/2^i%2
theorem FH:(bitsOf x n).length=n:=by simp[bitsOf]
theorem Q0:bitsOf x (n+1)=bitsOf x n++[x/2^n%2]:=by simp[bitsOf,List.range_succ]
theorem Uj:∀b∈bitsOf x n,0<=b/\b<=1:=fun b hb=>by
 simp only[bitsOf,List.mem_map]at hb;obtain⟨i,_,rfl⟩:=hb;omega
def Ee(out:List Int)(n:Nat)(b:Int):List Int:=
 (if n%8=0 then out++[0]else out).set (n/8) ((if n%8=0 then out++[0]else out).getD (n/8) 0+b*2^(n%8))
def pk(bs:List Int):Nat->List Int
 | 0=>[]
 | k+1=>Ee (pk bs k) k (bs.getD k 0)
theorem Uk{b:Int}(h:out.length=(n+7)/8):(Ee out n b).length=(n+1+7)/8:=by
 unfold Ee;rw[List.length_set];split
 ·rw[List.length_append,h,List.length_singleton];omega
 ·omega
theorem D6:∀ {k:Nat},(pk bs k).length=(k+7)/8
 | 0=>rfl
 | k+1=>Uk D6
def jU(out:List Int)(n:Nat):Int:=(if n%8=0 then out++[0]else out).getD (n/8) 0
theorem Ul(h:out.length=(n+7)/8)(h0:n%8=0):jU out n=0:=by
 unfold jU;rw[if_pos h0,List.getD_eq_getElem?_getD,List.getElem?_append_right (by omega),show n/8-out.length=0 by omega];rfl
theorem Pb{bs:List Int}(hb:∀b∈bs,0<=b/\b<=1):∀ {k:Nat},0<=jU (pk bs k) k/\jU (pk bs k) k<2^(k%8)
 | 0=>by simp[jU,pk]
 | k+1=>by
  by_cases h0:(k+1)%8=0
  ·rw[Ul D6 h0,h0];decide
  ·have ih:=Pb hb (k:=k);have e8:(k+1)/8=k/8:=by omega
   have em:(k+1)%8=k%8+1:=by omega
   have hbit:0<=bs.getD k 0/\bs.getD k 0<=1:=by
    rw[List.getD_eq_getElem?_getD];cases hg:bs[k]? with
    | none=>simp
    | some x=>exact hb x (List.mem_of_getElem? hg)
   have hlen:k/8<(if k%8=0 then pk bs k++[0]else pk bs k).length:=by
    have:=D6 (bs:=bs) (k:=k);split
    ·rw[List.length_append,this,List.length_singleton];omega
    ·omega
   have hp:jU (pk bs (k+1)) (k+1)=jU (pk bs k) k+bs.getD k 0*2^(k%8):=by
    unfold jU;rw[if_neg h0,e8,pk];unfold Ee;rw[List.getD_eq_getElem?_getD,List.getElem?_set_self hlen];rfl
   rw[hp,em,show(2:Int)^(k%8+1)=2*2^(k%8) by rw[Int.pow_succ];omega];have hpp:(0:Int)<2^(k%8):=Int.pow_pos (by decide);rcases(show bs.getD k 0=0\/bs.getD k 0=1 by omega)with h | h <;> rw[h] <;> omega
theorem zaT:(2:Int)^(n%8)<=128:=by
 have:n%8<=7:=by omega
 have h:=Ic this;have e:(2:Int)^7=128:=by decide
 omega
def yV:List Int:=(List.range 288).map fun s=>if s<144 then 8 else if s<256 then 9 else if s<280 then 7 else 8
theorem qn:yV.length=288:=by simp[yV]
theorem Wa{s:Nat}(h:s<288):yV[s]? = some (if s<144 then 8 else if s<256 then 9 else if s<280 then 7 else 8):=by simp[yV,h]
theorem Um:zt yV=1:=by decide +kernel
theorem Ht:¬(zt yV=0\/zt yV=2):=by rw[Um];decide
theorem Pc:Hk yV:=by show yV.length<=1048576;rw[qn];omega
theorem FI{k:IntKind}{l c:Nat}(H:Part k h (.slice a l c) xs)(hs:∀b,zh (.slice a l c)=some b->¬S b)(hi:i<xs.length)(x:Int) :
  xE S h (((a.getD default).add (i*1)).add 0)/\Part k (zQ h (((a.getD default).add (i*1)).add 0) (.int k x)) (.slice a l c) (xs.set i x)/\∀w,zh (.slice a l c)≠some w->zQ h (((a.getD default).add (i*1)).add 0) (.int k x) w=h w:=by
 rcases H with⟨_,rfl⟩ | ⟨b,pr,sp,re,T,e,hb⟩
 ·simp at hi
 ·cases e
  have hsb:=hs b rfl;have e1:(((some (⟨b,pr.length,none⟩:Addr)).getD default).add (i*1)).add 0=(⟨b,pr.length+i,none⟩:Addr):=by
   rw[add_add,Option.getD_some,zu];simp
  have hsz:pr.length+i<(ints k (pr++xs++sp++re)).size:=by rw[Tv];simp;omega
  rw[e1,wH hb,ints_set];have e2:(pr++xs++sp++re).set (pr.length+i) x=pr++xs.set i x++sp++re:=by
   rw[List.append_assoc,List.append_assoc,List.set_append_right _ _ (by omega),Nat.add_sub_cancel_left,List.set_append_left _ _ hi];simp[List.append_assoc]
  rw[e2];exact⟨⟨⟨(ints k (pr++xs++sp++re))[pr.length+i],by simp[zj,hb]⟩,by simp[yN,hb],hsb⟩,.inr ⟨b,pr,sp,re,T,by simp,upd_same⟩,fun w hw=>upd_ne fun e=>hw (by rw[e];rfl)⟩
theorem XS(hi:qaC S h0)(hs:qaB h0 h)(P:Part .u8 h (.slice a bs.length c) bs)(N:qaD h0 (.slice a bs.length c))(x n:Nat)(hx:x<=100000)(hn:n<=16)(hl:bs.length<=3000000) :
  zb oPP S yi #[.slice a bs.length c,.int .u64 x,.int .i64 n] h (fun v h'=>Part .u8 h' v (bs++bitsOf x n)/\qaD h0 v/\qaB h0 h'):=by
 refine LQ (vs:=[.slice a bs.length c,.int .u64 x,.int .i64 n]) ⟨rfl,rfl,rfl,trivial⟩ (hi.sub hs) ?_;simp only[GZ,Tr.wp,Ex.ev,coerce,toInt_int,za,zc,ze,zd,z9,arith,Cst.val,SV.den,zV,vA,vB,vC,decide_eq_true_eq,decide_eq_false_iff_not,vD,vE,vI,vH];refine⟨fun us h'=>∃(i:Nat) (a:Option Addr) (c:Nat),us=[.slice a (bs.length+i) c,.int .u64 ((x:Int)/2^i),.int .i64 i]/\i<=n/\Part .u8 h' (.slice a (bs.length+i) c) (bs++bitsOf x i)/\qaD h0 (.slice a (bs.length+i) c)/\qaB h0 h',fun us _=>n-(toInt (us.getD 2 undef)).toNat,⟨0,a,c,by simp,by omega,by simpa[bitsOf]using P,by simpa using N,hs⟩,?_⟩;rintro a1 l1 c1 y z h' ⟨i,a2,c2,hx1,hi2,P2,N2,s2⟩;simp only[List.cons.injEq,Value.int.injEq,Value.slice.injEq,true_and,and_true]at hx1;obtain⟨⟨rfl,rfl,rfl⟩,rfl,rfl⟩:=hx1;refine⟨fun hlt=>?_,fun hge=>?_⟩
 ·intro b hb;have hp:(0:Int)<2^i:=Int.pow_pos (by decide);have hx0:0<=(x:Int)/2^i:=Int.ediv_nonneg (by omega) (Int.le_of_lt hp);have hxl:(x:Int)/2^i<=x:=Int.ediv_le_self _ (by omega);have wb:IntKind.u8.wrap (((x:Int)/2^i).tmod 2)=(x:Int)/2^i%2:=by rw[Int.tmod_eq_emod_of_nonneg hx0];exact u8_in _ (by omega)
  have wd:IntKind.u64.wrap (((x:Int)/2^i).tdiv 2)=(x:Int)/2^(i+1):=by rw[u64_quo _ _ ⟨hx0,by omega,by omega⟩,Hl]
  have w2:IntKind.i64.wrap ((i:Int)+1)=((i+1:Nat):Int):=zr;rw[wb,wd,w2];have s3:qaB h' (upd h' b (.cells (ints .u8 [(x:Int)/2^i%2]) 5)):=Sub.zC hb;have hlen:(bs++bitsOf x i).length=bs.length+i:=by rw[List.length_append,FH]
  refine yA hi (s2.trans s3) (P2.sub s3) N2 (ys:=[(x:Int)/2^i%2]) zo.new (by rw[hlen];simp only[List.length_singleton];omega) fun v' h3 o n3 s4 _ _=>?_
  obtain⟨a4,c4,rfl,_,_⟩:=o.ints;have e:bs++bitsOf x i++[(x:Int)/2^i%2]=bs++bitsOf x (i+1):=by rw[Q0,List.append_assoc]
  have hlen2:(bs++bitsOf x (i+1)).length=bs.length+(i+1):=by rw[List.length_append,FH]
  rw[e,hlen2]at o n3;simp only[zd,zc,ze,e,hlen2];refine⟨⟨i+1,a4,c4,rfl,by omega,o,n3,s4⟩,?_⟩;show n-(toInt (Value.int .i64 ((i+1:Nat):Int))).toNat<n-(toInt (Value.int .i64 (i:Int))).toNat;rw[toInt_int,toInt_int];omega
 ·obtain rfl:i=n:=by omega
  exact⟨P2,N2,s2⟩
theorem Pd(hi:qaC S h0){h2:qaA}{out o2:List Int}(ho2:o2=(if n%8=0 then out++[0]else out))(hlen:n/8<o2.length)(P:Part .u8 h2 (.slice a o2.length c) o2)(N:qaD h0 (.slice a o2.length c))(s:qaB h0 h2)(b:Int) :
  xE S h2 (((a.getD default).add (n/8*1)).add 0)/\Part .u8 (zQ h2 (((a.getD default).add (n/8*1)).add 0) (.int .u8 (jU out n+b*2^(n%8)))) (.slice a o2.length c) (Ee out n b)/\qaB h0 (zQ h2 (((a.getD default).add (n/8*1)).add 0) (.int .u8 (jU out n+b*2^(n%8)))) /\
   ∀w,zh (.slice a o2.length c)≠some w->zQ h2 (((a.getD default).add (n/8*1)).add 0) (.int .u8 (jU out n+b*2^(n%8))) w=h2 w:=by
 obtain⟨g1,g2,g3⟩:=FI P (fun b hb hs=>hi b hs (N b hb)) hlen (jU out n+b*2^(n%8));refine⟨g1,?_,fun w o hw=>?_,g3⟩
 ·have e:Ee out n b=o2.set (n/8) (jU out n+b*2^(n%8)):=by unfold Ee jU;rw[<-ho2]
  rw[e];exact g2
 ·by_cases hb:zh (.slice a o2.length c)=some w
  ·rw[N w hb]at hw;cases hw
  ·rw[g3 w hb];exact s w o hw
theorem MZ(hi:qaC S h)(hx:zo h .u8 a bs)(hw:∀b∈bs,0<=b/\b<=1)(hl:bs.length<=3000000) :
  zb oPP S wL #[.slice a bs.length c] h (fun v h'=>tB.O h' v (pk bs bs.length)/\tB.New h v/\qaB h h'):=by
 refine Jf (vs:=[.slice a bs.length c]) ⟨rfl,trivial⟩ hi ?_;simp only[ET,Tr.wp,Ex.ev,coerce,toInt_int,za,zc,ze,zd,zf,zM,z9,arith,Cst.val,SV.den,zy,zV,zq,yk,vA,vB,vC,List.getElem?_cons_succ,decide_eq_true_eq,decide_eq_false_iff_not,vD,vE,vI,vH,and_true];intro b0 hb0;have s0:qaB h (upd h b0 (.cells (ints .u8 []) 5)):=Sub.zC hb0;refine⟨fun us h'=>∃(i:Nat) (a:Option Addr) (c:Nat),us=[.slice a (pk bs i).length c,.int .i64 i]/\i<=bs.length/\Part .u8 h' (.slice a (pk bs i).length c) (pk bs i)/\qaD h (.slice a (pk bs i).length c)/\qaB h h',fun us _=>bs.length-(toInt (us.getD 1 undef)).toNat,⟨0,_,_,rfl,by omega,(Own.made []).part,New.of hb0,s0⟩,?_⟩;rintro a1 l1 c1 z h' ⟨i,a2,c2,hx1,hi2,P2,N2,s2⟩;simp only[List.cons.injEq,Value.int.injEq,Value.slice.injEq,true_and,and_true]at hx1;obtain⟨⟨rfl,rfl,rfl⟩,rfl⟩:=hx1;refine⟨fun hlt=>?_,fun hge=>?_⟩
 ·have hi3:i<bs.length:=by omega
  have hw1:=hw _ (List.getElem_mem hi3);have w1:(i:Int).tmod 8=((i%8:Nat):Int):=by rw[Int.tmod_eq_emod_of_nonneg (by omega)];omega
  have w2:IntKind.i64.wrap ((i:Int).tdiv 8)=((i/8:Nat):Int):=by rw[Int.tdiv_eq_ediv_of_nonneg (by omega)];exact i64_in _ (by omega)
  have w3:IntKind.u64.wrap ((i%8:Nat):Int)=((i%8:Nat):Int):=u64_in _ (by omega);have w4:IntKind.i64.wrap ((i:Int)+1)=((i+1:Nat):Int):=zr;have hgd:bs.getD i 0=bs[i]:=by simp[List.getD,List.getElem?_eq_getElem hi3]
  have hb:=Pb hw (k:=i);have hp7:=zaT (n:=i);have hpp:(0:Int)<2^(i%8):=Int.pow_pos (by decide);have hmul:0<=bs[i]*2^(i%8)/\bs[i]*2^(i%8)<=2^(i%8):=by
   rcases(show bs[i]=0\/bs[i]=1 by omega)with h | h <;> rw[h] <;> omega
  have fin:∀ {h2:qaA} {a:Option Addr} {c:Nat} {o2:List Int},o2=(if i%8=0 then pk bs i++[0]else pk bs i)->Part .u8 h2 (.slice a o2.length c) o2->qaD h (.slice a o2.length c)->qaB h h2 ->
    ((!a.isNone)=true/\0<=((i/8:Nat):Int)/\((i/8:Nat):Int)<(o2.length:Int)/\∃x,zj h2 (((a.getD default).add (((i/8:Nat):Int).toNat*1)).add 0)=some (.int .u8 x)/\x=jU (pk bs i) i)/\i/8<o2.length:=by
   intro h2 a c o2 ho2 P N s;have hlen:i/8<o2.length:=by
    have:=D6 (bs:=bs) (k:=i);rw[ho2];split
    ·rw[List.length_append,this,List.length_singleton];omega
    ·omega
   obtain⟨a',c',e,_,hxx⟩:=P.ints;simp only[Value.slice.injEq]at e;obtain⟨rfl,_,rfl⟩:=e;obtain⟨g1,g2⟩:=hxx.cell (List.getElem?_eq_getElem hlen);refine⟨⟨by simpa using g2,by omega,by omega,o2[i/8],by simp only[Int.toNat_natCast,Nat.mul_one,add_add,Nat.add_zero];exact g1,?_⟩,hlen⟩;unfold jU;rw[<-ho2,List.getD_eq_getElem?_getD,List.getElem?_eq_getElem hlen];rfl
  rw[w1,w2,w3,w4];have g2:=(hx.cell (List.getElem?_eq_getElem hi3)).2;have wr:IntKind.u8.wrap (jU (pk bs i) i+IntKind.u8.wrap (bs[i]*2^min ((i%8:Nat):Int).toNat IntKind.u8.bits))=jU (pk bs i) i+(bs.getD i 0)*2^(i%8):=by
   rw[Int.toNat_natCast,show min (i%8) IntKind.u8.bits=i%8 by(show min (i%8) 8=i%8);omega,u8_in (bs[i]*2^(i%8)) (by omega),u8_in _ (by omega),hgd]
  have hpl:=D6 (bs:=bs) (k:=i);have hl1:∀o2:List Int,o2=(if i%8=0 then pk bs i++[0]else pk bs i)->(pk bs (i+1)).length=o2.length:=fun o2 e=>by
   rw[pk,Ee,List.length_set,<-e]
  refine⟨fun h0 b2 hb2=>?_,fun h0=>?_⟩
  ·have h0:i%8=0:=by simp at h0;omega
   have s3:qaB h' (upd h' b2 (.cells (ints .u8 [0]) 5)):=Sub.zC hb2;refine yA hi (s2.trans s3) (P2.sub s3) N2 (ys:=[0]) zo.new (by rw[hpl];simp only[List.length_singleton];omega) fun v' h3 P3 N3 s4 _ _=>?_
   obtain⟨a4,c4,rfl,_,_⟩:=P3.ints;simp only[zd,zc,ze];obtain⟨⟨q1,q2,q3,x,q4,rfl⟩,q5⟩:=fin (o2:=(pk bs i++[0])) (by rw[if_pos h0]) P3 N3 s4;obtain⟨b1,b2,b3,_⟩:=Pd hi (out:=pk bs i) (by rw[if_pos h0]) q5 P3 N3 s4 (bs.getD i 0);intro _;refine⟨q1,q2,q3,_,q4,by simpa using g2,by omega,hlt,bs[i],?_,by omega,q1,q2,q3,b1,?_,?_⟩
   ·simp only[Int.toNat_natCast,Nat.mul_one,add_add,Nat.add_zero];exact xF s4 (hx.cell (List.getElem?_eq_getElem hi3)).1
   ·rw[wr];refine⟨i+1,_,_,by rw[hl1 (pk bs i++[0]) (by rw[if_pos h0])],by omega,?_,?_,b3⟩
    ·rw[hl1 (pk bs i++[0]) (by rw[if_pos h0])];exact b2
    ·rw[hl1 (pk bs i++[0]) (by rw[if_pos h0])];exact N3
   ·show bs.length-(toInt (Value.int .i64 ((i+1:Nat):Int))).toNat<bs.length-(toInt (Value.int .i64 (i:Int))).toNat;rw[toInt_int,toInt_int];omega
  ·have h0:¬i%8=0:=by simp at h0;omega
   obtain⟨⟨q1,q2,q3,x,q4,rfl⟩,q5⟩:=fin (o2:=(pk bs i)) (by rw[if_neg h0]) P2 N2 s2;obtain⟨b1,b2,b3,_⟩:=Pd hi (out:=pk bs i) (by rw[if_neg h0]) q5 P2 N2 s2 (bs.getD i 0);intro _;refine⟨q1,q2,q3,_,q4,by simpa using g2,by omega,hlt,bs[i],?_,by omega,q1,q2,q3,b1,?_,?_⟩
   ·simp only[Int.toNat_natCast,Nat.mul_one,add_add,Nat.add_zero];exact xF s2 (hx.cell (List.getElem?_eq_getElem hi3)).1
   ·rw[wr];refine⟨i+1,_,_,by rw[hl1 (pk bs i) (by rw[if_neg h0])],by omega,?_,?_,b3⟩
    ·rw[hl1 (pk bs i) (by rw[if_neg h0])];exact b2
    ·rw[hl1 (pk bs i) (by rw[if_neg h0])];exact N2
   ·show bs.length-(toInt (Value.int .i64 ((i+1:Nat):Int))).toNat<bs.length-(toInt (Value.int .i64 (i:Int))).toNat;rw[toInt_int,toInt_int];omega
 ·obtain rfl:i=bs.length:=by omega
  exact⟨P2,N2,s2⟩
theorem Na(h:i<288):yV.take (i+1)=yV.take i++[if i<144 then 8 else if i<256 then 9 else if i<280 then 7 else 8]:=by
 rw[List.take_add_one,Wa h];rfl
theorem Cf(h:i<=288):(yV.take i).length=i:=by rw[List.length_take,qn];omega
theorem Pe:yV.take 288=yV:=by rw[List.take_of_length_le (by rw[qn];omega)]
theorem Nb(hi:qaC S h) :
  zb oPP S wM #[] h (fun v h'=>∃a1 c1 a2 c2,v=.tuple #[.slice a1 288 c1,.slice a2 32 c2]/\Part .i64 h' (.slice a1 288 c1) yV/\Part .i64 h' (.slice a2 32 c2) (List.replicate 32 5)/\qaD h (.slice a1 288 c1)/\qaD h (.slice a2 32 c2)/\qaB h h'):=by
 refine Jg (vs:=[]) trivial hi ?_;simp only[EU,Tr.wp,Ex.ev,coerce,toInt_int,za,zc,ze,zd,xg,xL,z9,arith,Cst.val,SV.den,zV,vA,vB,vC,List.getElem?_cons_succ,decide_eq_true_eq,decide_eq_false_iff_not,vD,vE,vI,vH,if_false,vK];intro b1 hb1 b2 hb2;have s1:qaB h (upd h b1 (.cells (ints .i64 []) 2)):=Sub.zC hb1;have s2:qaB h (upd (upd h b1 (.cells (ints .i64 []) 2)) b2 (.cells (ints .i64 []) 2)):=s1.trans (Sub.zC hb2);have hb2':h b2=none:=by
  cases hh:h b2 with
  | none=>rfl
  | some o=>have h3:(some o:Option Obj)=none:=(s1 _ _ hh).symm.trans hb2;cases h3
 have hne:b1≠b2:=fun e=>by rw[<-e]at hb2;simp[upd]at hb2
 refine⟨fun us h'=>∃(i:Nat) (a:Option Addr) (c:Nat),us=[.slice a i c,.int .i64 i]/\i<=288/\Part .i64 h' (.slice a i c) (yV.take i)/\qaD h (.slice a i c)/\zh (.slice a i c)≠some b2/\h' b2=some (.cells (ints .i64 []) 2)/\qaB h h',fun us _=>288-(toInt (us.getD 1 undef)).toNat,⟨0,_,_,rfl,by omega,((Own.made (k:=.i64) (T:=2) []).keep (fun b hb=>by cases hb;exact upd_ne hne)).part,New.of hb1,(fun e=>by cases e;exact hne rfl),upd_same,s2⟩,?_⟩;rintro a1 l1 c1 z h' ⟨i,a1',c1',hx1,hi2,P,N,hn2,h2,s⟩;obtain⟨⟨rfl,rfl,rfl⟩,rfl⟩:(a1=a1'/\l1=i/\c1=c1')/\z=i:=by simpa using hx1
 refine⟨fun hlt=>?_,fun hge=>?_⟩
 ·intro b hb;have hi3:l1<288:=by omega
  have hv:(if(decide ((l1:Int)>=256)&&decide ((l1:Int)<280))=true then(7:Int)else if(decide ((l1:Int)>=144)&&decide ((l1:Int)<256))=true then 9 else 8)=(if l1<144 then 8 else if l1<256 then 9 else if l1<280 then 7 else 8):=by
   simp only[Bool.and_eq_true,decide_eq_true_eq]
   repeat' split
   all_goals omega
  rw[hv];have w4:IntKind.i64.wrap ((l1:Int)+1)=((l1+1:Nat):Int):=zr;have s3:qaB h' (upd h' b (.cells (ints .i64 [if l1<144 then 8 else if l1<256 then 9 else if l1<280 then 7 else 8]) 2)):=Sub.zC hb;have hlen:=Cf hi2;refine yA hi (s.trans s3) (P.sub s3) N (ys:=[if l1<144 then 8 else if l1<256 then 9 else if l1<280 then 7 else 8]) zo.new (by rw[hlen];simp only[List.length_singleton];omega) fun v' h3 P3 N3 s4 k3 b3=>?_
  rw[<-Na hi3]at P3;obtain⟨a4,c4,rfl,_,_⟩:=P3.ints;rw[Cf (by omega)]at P3 N3 b3 ⊢;simp only[zd,zc,ze,w4];have hu:upd h' b (.cells (ints .i64 [if l1<144 then 8 else if l1<256 then 9 else if l1<280 then 7 else 8]) 2) b2=some (.cells (ints .i64 []) 2):=s3 _ _ h2;refine⟨⟨l1+1,_,_,rfl,by omega,P3,N3,?_,?_,s4⟩,?_⟩
  ·rcases b3 with b3 | b3
   ·rw[b3];exact hn2
   ·intro e;have e3:=b3 _ e;have e4:(some (Obj.cells (ints .i64 []) 2):Option Obj)=none:=hu.symm.trans e3;cases e4
  ·refine(k3 b2 (fun e=>?_) hn2).trans hu;have e4:(some (Obj.cells (ints .i64 []) 2):Option Obj)=none:=hu.symm.trans e;cases e4
  ·show 288-(toInt (Value.int .i64 ((l1+1:Nat):Int))).toNat<288-(toInt (Value.int .i64 (l1:Int))).toNat;rw[toInt_int,toInt_int];omega
 ·obtain rfl:l1=288:=by omega
  rw[Pe]at P;have N2:qaD h (.slice (some ⟨b2,0,none⟩) 0 0):=New.of hb2';have e2:Part .i64 h' (.slice (some ⟨b2,0,none⟩) 0 0) []:=Own.part ⟨b2,[],_,rfl,h2⟩;refine⟨fun us h'=>∃(i:Nat) (a:Option Addr) (c:Nat),us=[.slice a i c,.int .i64 i]/\i<=32/\Part .i64 h' (.slice a i c) (List.replicate i 5)/\qaD h (.slice a i c)/\(∀z,zh (.slice a i c)=some z->zh (.slice a1 288 c1)≠some z)/\Part .i64 h' (.slice a1 288 c1) yV/\qaB h h',fun us _=>32-(toInt (us.getD 1 undef)).toNat,⟨0,_,_,rfl,by omega,e2,N2,fun z hz e=>hn2 (by rw[e,<-hz];rfl),P,s⟩,?_⟩;rintro a5 l5 c5 z h' ⟨i,a5',c5',hx1,hi2,P5,N5,hn5,P,s⟩;obtain⟨⟨rfl,rfl,rfl⟩,rfl⟩:(a5=a5'/\l5=i/\c5=c5')/\z=i:=by simpa using hx1
  refine⟨fun hlt=>?_,fun hge=>?_⟩
  ·intro b hb;have w4:IntKind.i64.wrap ((l5:Int)+1)=((l5+1:Nat):Int):=zr;have s3:qaB h' (upd h' b (.cells (ints .i64 [5]) 2)):=Sub.zC hb;have P1:=P.sub s3;refine yA hi (s.trans s3) (P5.sub s3) N5 (ys:=[5]) zo.new (by rw[List.length_replicate];simp only[List.length_singleton];omega) fun v' h3 P3 N3 s4 k3 b3=>?_
   have er:List.replicate l5 (5:Int)++[5]=List.replicate (l5+1) 5:=by rw[List.replicate_succ']
   rw[er]at P3;obtain⟨a4,c4,rfl,_,_⟩:=P3.ints;rw[List.length_replicate]at P3 N3 b3 ⊢;simp only[zd,zc,ze,w4];have hk:∀z,zh (.slice a1 288 c1)=some z->h3 z=upd h' b (.cells (ints .i64 [5]) 2) z:=fun z hz=>k3 z (P1.held z hz) fun e=>hn5 z e hz
   refine⟨⟨l5+1,_,_,rfl,by omega,P3,N3,?_,P1.keep hk,s4⟩,?_⟩
   ·intro z hz e;rcases b3 with b3 | b3
    ·rw[b3]at hz;exact hn5 z hz e
    ·exact P1.held z e (b3 z hz)
   ·show 32-(toInt (Value.int .i64 ((l5+1:Nat):Int))).toNat<32-(toInt (Value.int .i64 (l5:Int))).toNat;rw[toInt_int,toInt_int];omega
  ·obtain rfl:l5=32:=by omega
   exact⟨_,_,_,_,rfl,P,P5,N,N5,s⟩
def hub(i:Nat):List Int:=yV.take i++List.replicate (288-i) 0
theorem XT(h:i<=288):(hub i).length=288:=by unfold hub;rw[List.length_append,Cf h,List.length_replicate];omega
theorem XU(h:i<288):(hub i).set i (if i<144 then 8 else if i<256 then 9 else if i<280 then 7 else 8)=hub (i+1):=by
 unfold hub;rw[List.set_append_right _ _ (by rw[Cf (by omega)];omega),Cf (by omega),Nat.sub_self,show 288-i=(288-(i+1))+1 by omega,List.replicate_succ,List.set_cons_zero,Na h,List.append_assoc];rfl
theorem XV:hub 288=yV:=by unfold hub;rw[Pe];simp
theorem Wb:hub 0=List.replicate 288 0:=by unfold hub;rw[List.take_zero,vH]
def Wc:Tr:=match qh with | .join _ _ t=>t | t=>t
theorem XW : qh = .join [.slice, .slice, .slice, .slice]
 (.both
  (.mks 2 1 8 [(.int .i64 0)] (.cst (.int .i64 288)) (.cst (.int .i64 288))
  (.mks 2 1 8 [(.int .i64 0)] (.cst (.int .i64 32)) (.cst (.int .i64 32))
  (.cont 0 [(.var (.slice) 0), (.var (.slice) 1), (.var (.slice) 0), (.var (.slice) 1)])))
  (.mks 2 1 8 [(.int .i64 0)] (.cst (.int .i64 32)) (.cst (.int .i64 32))
  (.mks 2 1 8 [(.int .i64 0)] (.cst (.int .i64 288)) (.cst (.int .i64 288))
  (.cont 0 [(.var (.slice) 1), (.var (.slice) 0), (.var (.slice) 1), (.var (.slice) 0)])))) Wc := rfl
theorem Un(hi:qaC S h){a1 a2:Option Addr}{c1 c2:Nat}(P1:Part .i64 h1 (.slice a1 288 c1) (List.replicate 288 0))(P2:Part .i64 h1 (.slice a2 32 c2) (List.replicate 32 0))(N1:qaD h (.slice a1 288 c1))(N2:qaD h (.slice a2 32 c2))(hn:∀z,zh (.slice a2 32 c2)=some z->zh (.slice a1 288 c1)≠some z)(s:qaB h h1) :
  Wc.wp oPP S yb (fun v h'=>∃a1 c1 a2 c2,v=.tuple #[.slice a1 288 c1,.slice a2 32 c2]/\Part .i64 h' (.slice a1 288 c1) yV/\Part .i64 h' (.slice a2 32 c2) (List.replicate 32 5)/\qaD h (.slice a1 288 c1)/\qaD h (.slice a2 32 c2)/\qaB h h') [.slice a1 288 c1,.slice a2 32 c2,.slice a1 288 c1,.slice a2 32 c2] h1 []:=by
 simp only[Wc,qh,Tr.wp,Ex.ev,coerce,toInt_int,za,zc,ze,zd,zf,zM,jA,z9,arith,Cst.val,SV.den,zV,yk,vA,vB,vC,List.getElem?_cons_succ,decide_eq_true_eq,decide_eq_false_iff_not,vD,vE,vI,vH,if_false,vK];have ns1:∀b,zh (.slice a1 288 c1)=some b->¬S b:=fun z hz hs=>hi z hs (N1 z hz)
 have ns2:∀b,zh (.slice a2 32 c2)=some b->¬S b:=fun z hz hs=>hi z hs (N2 z hz)
 refine⟨fun us h'=>∃i:Nat,us=[.int .i64 i]/\i<=288/\Part .i64 h' (.slice a1 288 c1) (hub i)/\Part .i64 h' (.slice a2 32 c2) (List.replicate 32 0)/\qaB h h',fun us _=>288-(toInt (us.getD 0 undef)).toNat,⟨0,rfl,by omega,by rw[Wb];exact P1,P2,s⟩,?_⟩;rintro x h' ⟨i,hx,hi2,P1,P2,s⟩;obtain rfl:x=i:=by simpa using hx
 refine⟨fun hlt=>?_,fun hge=>?_⟩
 ·have hi3:i<288:=by omega
  have w4:IntKind.i64.wrap ((i:Int)+1)=((i+1:Nat):Int):=zr;have hl:=XT hi2;have step:∀v:Int,v=(if i<144 then 8 else if i<256 then 9 else if i<280 then 7 else 8) ->
    ((!a1.isNone)=true/\0<=(i:Int)/\(i:Int)<((288:Nat):Int)/\xE S h' (((a1.getD default).add ((i:Int).toNat*1)).add 0)) /\
    ∃i2:Nat,[Value.int .i64 ((i+1:Nat):Int)]=[.int .i64 i2]/\i2<=288/\Part .i64 (zQ h' (((a1.getD default).add ((i:Int).toNat*1)).add 0) (.int .i64 v)) (.slice a1 288 c1) (hub i2)/\Part .i64 (zQ h' (((a1.getD default).add ((i:Int).toNat*1)).add 0) (.int .i64 v)) (.slice a2 32 c2) (List.replicate 32 0)/\qaB h (zQ h' (((a1.getD default).add ((i:Int).toNat*1)).add 0) (.int .i64 v)):=by
   intro v hv;obtain⟨g1,g2,g3⟩:=FI P1 ns1 (i:=i) (by omega) v;rw[hv,XU hi3,<-hv]at g2;obtain⟨a',c',e,_,hxx⟩:=P1.ints;simp only[Value.slice.injEq]at e;obtain⟨rfl,_,rfl⟩:=e;have ha:=(hxx.cell (List.getElem?_eq_getElem (show i<(hub i).length by omega))).2;refine⟨⟨by simpa using ha,by omega,by omega,g1⟩,i+1,rfl,by omega,g2,?_,fun y o hy=>?_⟩
   ·exact P2.keep fun z hz=>g3 z (hn z hz)
   ·by_cases hb:zh (.slice a1 288 c1)=some y
    ·rw[N1 y hb]at hy;cases hy
    ·exact(g3 y hb).trans (s y o hy)
  have meas:(fun us (_:qaA)=>288-(toInt (us.getD 0 undef)).toNat) [Value.int .i64 ((i+1:Nat):Int)] h'<(fun us (_:qaA)=>288-(toInt (us.getD 0 undef)).toNat) [Value.int .i64 (i:Int)] h':=by
   show 288-(toInt (Value.int .i64 ((i+1:Nat):Int))).toNat<288-(toInt (Value.int .i64 (i:Int))).toNat;rw[toInt_int,toInt_int];omega
  rw[w4];refine⟨fun hc=>?_,fun hc=>⟨fun hc2=>?_,fun hc2=>?_⟩⟩
  ·have hc:(i:Int)<144\/(i:Int)>=280:=by simpa using hc
   obtain⟨⟨q1,q2,q3,q4⟩,q5⟩:=step 8 (by repeat' split <;> omega);exact⟨q1,q2,q3,q4,fun _=>⟨q5,meas⟩⟩
  ·have hc:¬((i:Int)<144\/(i:Int)>=280):=by simpa using hc
   obtain⟨⟨q1,q2,q3,q4⟩,q5⟩:=step 9 (by repeat' split <;> omega);exact⟨q1,q2,q3,q4,fun _ _=>⟨q5,meas⟩⟩
  ·have hc:¬((i:Int)<144\/(i:Int)>=280):=by simpa using hc
   obtain⟨⟨q1,q2,q3,q4⟩,q5⟩:=step 7 (by repeat' split <;> omega);exact⟨q1,q2,q3,q4,fun _ _=>⟨q5,meas⟩⟩
 ·obtain rfl:i=288:=by omega
  rw[XV]at P1;refine⟨fun us h'=>∃i:Nat,us=[.int .i64 i]/\i<=32/\Part .i64 h' (.slice a1 288 c1) yV/\Part .i64 h' (.slice a2 32 c2) (List.replicate i 5++List.replicate (32-i) 0)/\qaB h h',fun us _=>32-(toInt (us.getD 0 undef)).toNat,⟨0,rfl,by omega,P1,P2,s⟩,?_⟩;rintro x h' ⟨i,hx,hi2,P1,P2,s⟩;obtain rfl:x=i:=by simpa using hx
  have hl:(List.replicate i (5:Int)++List.replicate (32-i) 0).length=32:=by rw[List.length_append,List.length_replicate,List.length_replicate];omega
  refine⟨fun hlt=>?_,fun hge=>?_⟩
  ·have hi3:i<32:=by omega
   have w4:IntKind.i64.wrap ((i:Int)+1)=((i+1:Nat):Int):=zr;rw[w4];obtain⟨g1,g2,g3⟩:=FI P2 ns2 (i:=i) (by rw[hl];omega) 5;have es:(List.replicate i (5:Int)++List.replicate (32-i) 0).set i 5=List.replicate (i+1) 5++List.replicate (32-(i+1)) 0:=by
    rw[List.set_append_right _ _ (by rw[List.length_replicate];omega),List.length_replicate,Nat.sub_self,show 32-i=(32-(i+1))+1 by omega,List.replicate_succ,List.set_cons_zero,List.replicate_succ',List.append_assoc];rfl
   rw[es]at g2;obtain⟨a',c',e,_,hxx⟩:=P2.ints;simp only[Value.slice.injEq]at e;obtain⟨rfl,_,rfl⟩:=e;have ha:=(hxx.cell (List.getElem?_eq_getElem (show i<(List.replicate i (5:Int)++List.replicate (32-i) 0).length by omega))).2;refine⟨by simpa using ha,by omega,by omega,g1,⟨i+1,rfl,by omega,?_,g2,fun y o hy=>?_⟩,?_⟩
   ·exact P1.keep fun z hz=>g3 z fun e=>hn z e hz
   ·by_cases hb:zh (.slice a2 32 c2)=some y
    ·rw[N2 y hb]at hy;cases hy
    ·exact(g3 y hb).trans (s y o hy)
   ·show 32-(toInt (Value.int .i64 ((i+1:Nat):Int))).toNat<32-(toInt (Value.int .i64 (i:Int))).toNat;rw[toInt_int,toInt_int];omega
  ·obtain rfl:i=32:=by omega
   exact⟨_,_,_,_,rfl,P1,by simpa using P2,N1,N2,s⟩
theorem FJ(n:Nat):Own .i64 (upd h b (.cells (ints .i64 (List.replicate n 0)) T)) (.slice (some ⟨b,0,none⟩) n n) (List.replicate n 0):=by
 have:=Own.made (k:=.i64) (h:=h) (b:=b) (T:=T) (List.replicate n 0);rwa[List.length_replicate]at this
theorem Q8(hi:qaC S h) :
  zb oPP S Aq #[] h (fun v h'=>∃a1 c1 a2 c2,v=.tuple #[.slice a1 288 c1,.slice a2 32 c2]/\Part .i64 h' (.slice a1 288 c1) yV/\Part .i64 h' (.slice a2 32 c2) (List.replicate 32 5)/\qaD h (.slice a1 288 c1)/\qaD h (.slice a2 32 c2)/\qaB h h'):=by
 refine Ha (vs:=[]) trivial hi ?_;rw[XW];have e1:IntKind.i64.wrap 288=288:=by decide
 have e2:IntKind.i64.wrap 32=32:=by decide
 have m1:yl ((288:Int).toNat*1) #[Value.int .i64 0]=ints .i64 (List.replicate 288 0):=AJ (k:=.i64) 288;have m2:yl ((32:Int).toNat*1) #[Value.int .i64 0]=ints .i64 (List.replicate 32 0):=AJ (k:=.i64) 32;simp only[Tr.wp,Fx,Ex.ev,coerce,toInt_int,zc,ze,zd,Cst.val,vA,vB,vC,vD,vE,vI,vH,e1,e2,m1,m2];have ne:∀ {b b':Nat} {o:Obj},upd h b o b'=none->b≠b'/\h b'=none:=fun {b b' o} hb=>by
  have n:b≠b':=fun e=>by rw[e,upd_same]at hb;cases hb
  exact⟨n,by rw[<-upd_ne (h:=h) (o:=o) (Ne.symm n)];exact hb⟩
 refine⟨⟨by omega,by omega,by decide,fun b hb=>⟨by omega,by omega,by decide,fun b' hb' _=>?_⟩⟩,by omega,by omega,by decide,fun b hb=>⟨by omega,by omega,by decide,fun b' hb' _=>?_⟩⟩
 ·obtain⟨n,hb2⟩:=ne hb';refine Un hi ((FJ (h:=h) (T:=2) 288).keep fun z hz=>?_).part (FJ 32).part (New.of hb) (New.of hb2) (fun z hz e=>?_) ((Sub.zC hb).trans (Sub.zC hb'))
  ·cases hz;exact upd_ne n
  ·cases hz;cases e;exact n rfl
 ·obtain⟨n,hb2⟩:=ne hb';refine Un hi (FJ 288).part ((FJ (h:=h) (T:=2) 32).keep fun z hz=>?_).part (New.of hb2) (New.of hb) (fun z hz e=>?_) ((Sub.zC hb).trans (Sub.zC hb'))
  ·cases hz;exact upd_ne n
  ·cases hz;cases e;exact n rfl
end
variable {d sz:Nat}{K L:List Int}
section
section
def RingAt(h0 h:qaA)(b:Nat)(T:TypeId)(sz:Nat)(K:List Int):Prop:=
 ∃(d:List Int) (at_ n:Nat),h b=some (yj sz d at_ n T)/\RingS sz d at_ n K/\qaB h0 h/\h0 b=none
theorem xJ{o:Obj}(hs:qaB h0 h1)(hb:h0 b=none):qaB h0 (upd h1 b o):=fun x u hx=>by
 rw[upd_ne (fun e=>by rw[e,hb]at hx;cases hx)];exact hs x u hx
theorem RingAt.sub(H:RingAt h0 h b T sz K):qaB h0 h:=by obtain⟨_,_,_,_,_,s,_⟩:=H;exact s
theorem RingAt.mono(H:RingAt h0 h b T sz K)(s:qaB h h1):RingAt h0 h1 b T sz K:=by
 obtain⟨d,at_,n,hb,R,s0,hn⟩:=H;exact⟨d,at_,n,s b _ hb,R,s0.trans s,hn⟩
theorem Sq(hi:qaC S h0)(H:RingAt h0 h b T sz K)(a:Option Addr)(c:Nat)(ys:List Int)(hc:ys.length<=c)(hl:ys.length<=1099511627776)(hx:∀h':qaA,(∀y,y≠b->h' y=h y)->zo h' .u8 a ys) :
  zb oPP S jO #[.pointer (some ⟨b,0,none⟩),.slice a ys.length c] h (fun v h'=>v=.tuple #[]/\RingAt h0 h' b T sz (zB sz (K++ys))/\∀y,y≠b->h' y=h y):=by
 obtain⟨d,at_,n,hb,R,s,hbn⟩:=id H;have hsb:¬S b:=fun hs=>hi b hs hbn
 refine Hb (vs:=[.pointer (some ⟨b,0,none⟩),.slice a ys.length c]) ⟨rfl,rfl,trivial⟩ (hi.sub s) ?_;simp only[Dn,Tr.wp,Ex.ev,coerce,toInt_int,za,zc,ze,zd,zf,zx,xb,xL,xW,jI,z9,arith,Cst.val,SV.den,zy,zV,zq,yk,vA,vB,vC,decide_eq_true_eq,decide_eq_false_iff_not,vD,vE,vI,vH,and_true,true_and];have hs1:=R.s1;have hs2:=R.s2;have w1:IntKind.i64.wrap ((ys.length:Int)-(sz:Int))=(ys.length:Int)-sz:=i64_in _ (by omega);refine⟨by simp,(sz:Int),by simpa[zu]using EK hb,?_⟩;rw[w1];have wm:(if(ys.length:Int)-(sz:Int)>0 then(ys.length:Int)-(sz:Int)else 0).toNat=ys.length-sz:=by split <;> omega
 obtain⟨m,hm⟩:∃m,m=ys.length-sz:=⟨_,rfl⟩;refine⟨by split <;> omega,by split <;> omega,?_⟩;rw[wm,<-hm];obtain⟨zs,hz⟩:∃zs,zs=ys.drop m:=⟨_,rfl⟩;have hzl:zs.length=ys.length-m:=by rw[hz,List.length_drop]
 have hdr:(ys.drop m).take (ys.length-m)=zs:=by rw[hz];exact List.take_of_length_le (by rw[List.length_drop];omega)
 have hK:zB sz (K++zs)=zB sz (K++ys):=by rw[hz];exact Sb (by omega)
 have cut:∀h':qaA,(∀y,y≠b->h' y=h y)->∃a',qa 1 a m ys.length c=.slice a' zs.length (c-m)/\zo h' .u8 a' zs:=fun h' hh=>by
  obtain⟨a',e,H'⟩:=wG (hx h' hh) (lo:=m) (hi:=ys.length) (m:=c) (by omega) (by omega) hc;rw[hdr]at e H';exact⟨a',e,H'⟩
 refine⟨fun us h'=>∃(i:Nat) (d:List Int) (at_ n:Nat),us=[.int .i64 i]/\i<=zs.length/\h'=upd h b (yj sz d at_ n T)/\RingS sz d at_ n (zB sz (K++zs.take i)),fun us _=>zs.length-(toInt (us.getD 0 undef)).toNat,⟨0,d,at_,n,rfl,by omega,(qR hb).symm,?_⟩,?_⟩
 ·rw[List.take_zero,vJ,OL (by have:=R.kn;have:=R.n1;omega)];exact R
 rintro x h' ⟨i,d,at_,n,hx1,hi2,rfl,R⟩;obtain rfl:x=i:=by simpa using hx1
 have hb':upd h b (yj sz d at_ n T) b=some (yj sz d at_ n T):=upd_same;obtain⟨a',ea,hz'⟩:=cut (upd h b (yj sz d at_ n T)) (fun y hy=>upd_ne hy);rw[ea];simp only[zu,Nat.add_zero,Nat.zero_add,Nat.mul_one,zc,zd,zM,Int.toNat_natCast];refine⟨fun hlt=>?_,fun hge=>?_⟩
 ·have hi3:i<zs.length:=by omega
  obtain⟨g1,g2⟩:=hz'.cell (List.getElem?_eq_getElem hi3);have ha1:=R.a1;have hdl:=R.dl;have hn1:=R.n1;have w2:IntKind.i64.wrap ((i:Int)+1)=((i+1:Nat):Int):=zr;have w3:(IntKind.i64.wrap ((at_:Int)+1)).tmod (sz:Int)=(((at_+1)%sz:Nat):Int):=by
   rw[i64_in _ (by omega),Int.tmod_eq_emod_of_nonneg (by omega)];push_cast;rfl
  have w4:(if(sz:Int)<IntKind.i64.wrap ((n:Int)+1)then(sz:Int)else IntKind.i64.wrap ((n:Int)+1))=((min (n+1) sz:Nat):Int):=by
   rw[i64_in _ (by omega)];split <;> omega
  have P:=R.push zs[i];rw[BW,List.append_assoc,show zs.take i++[zs[i]]=zs.take (i+1) by rw[List.take_add_one,List.getElem?_eq_getElem hi3];rfl]at P;have s1:=TB hb' (i:=at_) (by omega) zs[i];rw[xw]at s1;have hb1:upd h b (yj sz (d.set at_ zs[i]) at_ n T) b=some (yj sz (d.set at_ zs[i]) at_ n T):=upd_same;have hd1:(d.set at_ zs[i]).length=32768:=by rw[List.length_set];exact hdl
  have s2:=Sc hb1 hd1 (((at_+1)%sz:Nat):Int);rw[xw]at s2;have hb2:upd h b (yj sz (d.set at_ zs[i]) (((at_+1)%sz:Nat):Int) n T) b=some (yj sz (d.set at_ zs[i]) (((at_+1)%sz:Nat):Int) n T):=upd_same;have s3:=TC hb2 hd1 ((min (n+1) sz:Nat):Int);rw[xw]at s3;refine⟨by simpa using g2,by omega,hlt,zs[i],by simpa[add_add]using g1,by simp,at_,Ia hb' hdl,by simp,by omega,by omega,LK hb' hsb (Tz hb' (List.getElem?_eq_getElem (by omega))),by simp,?_⟩;rw[Int.toNat_natCast,s1];refine⟨at_,Ia hb1 hd1,by simp,sz,EK hb1,by simp;omega,by simp,LK hb1 hsb (Ia hb1 hd1),by simp,?_⟩;rw[w3,s2];refine⟨n,OM hb2 hd1,by simp,sz,EK hb2,by simp,LK hb2 hsb (OM hb2 hd1),?_⟩;rw[w2];rw[w4,s3];exact⟨⟨i+1,_,_,_,rfl,by omega,rfl,P⟩,by simp only[vA,toInt_int];omega⟩
 ·obtain rfl:i=zs.length:=by omega
  rw[List.take_length,hK]at R;exact⟨⟨d,at_,n,upd_same,R,xJ s hbn,hbn⟩,fun y hy=>upd_ne hy⟩
theorem Pf(hi:qaC S h)(a:Option Addr)(c:Nat)(ys:List Int)(hc:ys.length<=c)(hl:ys.length<=1099511627776)(hx:zo h .u8 a ys)(h1:1<=sz)(h2:sz<=32768) :
  zb oPP S Ae #[.int .i64 sz,.slice a ys.length c] h (fun v h'=>∃b T,v=.pointer (some ⟨b,0,none⟩)/\RingAt h h' b T sz (zB sz ys)):=by
 refine Kk (vs:=[.int .i64 sz,.slice a ys.length c]) ⟨rfl,rfl,trivial⟩ hi ?_;simp only[Gj,Tr.wp,z4,Ex.ev,coerce,toInt_int,zc,ze,zd,zf,Cst.val,SV.den,zn,zL,zz,zk,yF,zy,vF,vG,List.replicate_one,vA,vB,vD,vE,vI,vH,vJ,if_true];intro b hb;rw[TD];have hbn:upd h b (yj sz (List.replicate 32768 0) 0 0 78) b=some (yj sz (List.replicate 32768 0) 0 0 78):=upd_same;have H:RingAt h (upd h b (yj sz (List.replicate 32768 0) 0 0 78)) b 78 sz []:=⟨_,0,0,upd_same,RingS.new h1 h2,Sub.zC hb,hb⟩;refine(Sq hi H a c ys hc hl fun h' hh=>?_).mono ?_
 ·intro i x hxi;obtain⟨ad,e,hc⟩:=hx i x hxi;refine⟨ad,e,?_⟩;have hne:(ad.add i).block≠b:=fun e=>jc hc (e▸hb)
  unfold zj at hc ⊢;rw[hh _ hne,upd_ne hne];exact hc
 ·rintro _ h2 ⟨rfl,H2,_⟩;rw[vH]at H2;exact⟨rfl,b,78,rfl,H2⟩
end
section
theorem Wd(hi:qaC S h)(a:Option Addr)(c:Nat)(ys:List Int)(n:Nat)(hc:ys.length<=c)(hl:ys.length<=1099511627776)(hn:n<=32768)(hx:zo h .u8 a ys) :
  zb oPP S Cl #[.slice a ys.length c,.int .i64 n] h (fun v h'=>tB.O h' v (zB n ys)/\tB.New h v/\qaB h h'):=by
 refine Kl (vs:=[.slice a ys.length c,.int .i64 n]) ⟨rfl,rfl,trivial⟩ hi ?_;simp only[Gk,Tr.wp,Ex.ev,coerce,toInt_int,za,zc,ze,zd,xW,jI,z9,arith,Cst.val,SV.den,vA,vB,vC,decide_eq_true_eq,decide_eq_false_iff_not,vD,vE,vI,vH];have w1:IntKind.i64.wrap ((ys.length:Int)-(n:Int))=(ys.length:Int)-n:=i64_in _ (by omega);rw[w1];have fin:∀(a':Option Addr) (c':Nat) (zs:List Int),zo h .u8 a' zs->zs=zB n ys->∀b,h b=none->appW S 5 1 1 [.int .u8 0] (.slice (some ⟨b,0,none⟩) 0 0) (.slice a' zs.length c') (upd h b (.cells #[] 5)) (fun v h'=>tB.O h' (.slice (slA v) (slL v) (slC v)) (zB n ys)/\tB.New h (.slice (slA v) (slL v) (slC v))/\qaB h h'):=fun a' c' zs hz e b hb=>by
  have s1:qaB h (upd h b (.cells (ints .u8 []) 5)):=Sub.zC hb;have hzl:zs.length<=ys.length:=by rw[e,je];omega
  refine yA hi s1 (Own.made []).part (New.of hb) (hz.sub s1) (by simp only[List.length_nil];omega) fun v' h' o n' s _ _=>?_
  obtain⟨a4,c4,rfl,_,_⟩:=o.ints;rw[vH,e]at o n';simp only[zd,zc,ze,vH,e];exact⟨o,n',s⟩
 refine⟨fun hgt=>?_,fun hle _=>?_⟩
 ·refine⟨by omega,by omega,fun _=>?_⟩;have ee:((ys.length:Int)-(n:Int)).toNat=ys.length-n:=by omega
  rw[ee];obtain⟨a',e,H'⟩:=wG hx (lo:=ys.length-n) (hi:=ys.length) (m:=c) (by omega) (by omega) hc;have hdr:(ys.drop (ys.length-n)).take (ys.length-(ys.length-n))=zB n ys:=List.take_of_length_le (by rw[List.length_drop];omega);rw[hdr]at e H';simp only[e,zd,zc,ze];exact fun b hb=>fin a' _ _ H' rfl b hb
 ·exact fun b hb=>fin a c ys hx (OL (by omega)).symm b hb
def ja(d:Nat)(L:List Int):Nat->List Int
 | 0=>L
 | n+1=>ja d L n++[(ja d L n).getD ((ja d L n).length-d) 0]
theorem D7:(ja d L n).length=L.length+n:=by
 induction n with
 | zero=>rfl
 | succ n ih=>simp only[ja,List.length_append,ih,List.length_singleton];omega
theorem Zn(hi:qaC S h0)(H:RingAt h0 h b T sz K)(d:Int)(h1:1<=d)(h2:d<=(K.length:Int)) :
  zb oPP S wT #[.pointer (some ⟨b,0,none⟩),.int .i64 d] h (fun v h'=>v=.int .u8 (K.getD (K.length-d.toNat) 0)/\h'=h):=by
 obtain⟨ds,at_,n,hb,R,s,hbn⟩:=id H;refine Gx (vs:=[.pointer (some ⟨b,0,none⟩),.int .i64 d]) ⟨rfl,rfl,trivial⟩ (hi.sub s) ?_;simp only[C0,Tr.wp,Ex.ev,coerce,toInt_int,za,zf,zx,xb,z9,arith,Cst.val,SV.den,zy,zq,vA,vB,decide_eq_true_eq,vI,vH,and_true];have hs1:=R.s1;have hs2:=R.s2;have ha1:=R.a1;have hdl:=R.dl;have hn1:=R.n1;have hkn:=R.kn;have w1:IntKind.i64.wrap (IntKind.i64.wrap ((at_:Int)-d)+(sz:Int))=((at_+sz-n+(n-d.toNat):Nat):Int):=by
  rw[i64_in ((at_:Int)-d) (by omega),i64_in _ (by omega)];omega
 have w2:((at_+sz-n+(n-d.toNat):Nat):Int).tmod (sz:Int)=(((at_+sz-n+(n-d.toNat))%sz:Nat):Int):=by
  rw[Int.tmod_eq_emod_of_nonneg (by omega)];push_cast;rfl
 have hlt:(at_+sz-n+(n-d.toNat))%sz<sz:=Nat.mod_lt _ (by omega);have hrd:=R.rd (n-d.toNat) (by omega);simp only[zu,Nat.add_zero,Nat.zero_add];refine⟨by simp,at_,Ia hb hdl,by simp,sz,EK hb,by simp,sz,EK hb,by simp;omega,by simp,?_⟩;rw[w1,w2];have hk:K[n-d.toNat]? = some K[n-d.toNat]:=List.getElem?_eq_getElem (by omega);rw[hk]at hrd;rw[Int.toNat_natCast,Nat.mul_one];refine⟨by omega,by omega,_,Tz hb hrd,?_⟩;have e:K.getD (K.length-d.toNat) 0=K[n-d.toNat]:=by
  have e1:K.length-d.toNat=n-d.toNat:=by omega
  rw[List.getD_eq_getElem?_getD,e1,hk];rfl
 rw[e]
theorem Sr(h1:1<=d)(h2:d<=sz)(h3:d<=L.length):(zB sz L).getD ((zB sz L).length-d) 0=L.getD (L.length-d) 0:=by
 rw[je,List.getD_eq_getElem?_getD,List.getD_eq_getElem?_getD];unfold zB;rw[List.getElem?_drop];congr 2;omega
theorem We(hi:qaC S h0)(H:RingAt h0 h b T sz (zB sz L))(d n:Int)(d1:1<=d)(d2:d<=(L.length:Int))(d3:d<=(sz:Int))(hn:0<=n/\n<=258)(hl:L.length<=32768) :
  zb oPP S qE #[.pointer (some ⟨b,0,none⟩),.int .i64 d,.int .i64 n] h (fun v h'=>tB.O h' v ((ja d.toNat L n.toNat).drop L.length)/\tB.New h0 v/\RingAt h0 h' b T sz (zB sz (ja d.toNat L n.toNat))):=by
 refine EV (vs:=[.pointer (some ⟨b,0,none⟩),.int .i64 d,.int .i64 n]) ⟨rfl,rfl,rfl,trivial⟩ (hi.sub H.sub) ?_;simp only[Bm,Tr.wp,z4,Ex.ev,coerce,toInt_int,za,zc,ze,zd,zx,z9,arith,Cst.val,SV.den,zn,zL,zz,zk,zi,zy,zV,vF,vG,vA,vB,vC,decide_eq_true_eq,decide_eq_false_iff_not,vD,vE,vI,vH,vJ,if_true,if_false,vK];intro b0 hb0;have hrb:h b≠none:=by obtain⟨_,_,_,hb,_⟩:=H;rw[hb];simp
 have hne0:b0≠b:=fun e=>hrb (e▸hb0)
 have s0:qaB h (upd h b0 (.cells (ints .u8 []) 5)):=Sub.zC hb0;obtain⟨D,hD⟩:∃D,D=d.toNat:=⟨_,rfl⟩;rw[<-hD];refine⟨fun us h'=>∃(a:Option Addr) (c i:Nat),us=[.slice a i c,.int .i64 i]/\i<=n.toNat/\Part .u8 h' (.slice a i c) ((ja D L i).drop L.length)/\qaD h0 (.slice a i c)/\zh (.slice a i c)≠some b/\RingAt h0 h' b T sz (zB sz (ja D L i)),fun us _=>n.toNat-(toInt (us.getD 1 undef)).toNat,⟨_,_,0,rfl,by omega,?_,New.of (ya H.sub hb0),fun e=>hne0 (by cases e;rfl),H.mono s0⟩,?_⟩
 ·have e:(ja D L 0).drop L.length=[]:=by simp[ja]
  rw[e];exact(Own.made (k:=.u8) (b:=b0) (T:=5) (h:=h) []).part
 rintro a l c x h' ⟨a',c',i,hx1,hi2,P,N,hne,R⟩;obtain⟨⟨rfl,rfl,rfl⟩,rfl⟩:(a=a'/\l=i/\c=c')/\x=i:=by simpa using hx1
 have hll:((ja D L l).drop L.length).length=l:=by rw[List.length_drop,D7];omega
 refine⟨fun hlt=>?_,fun hge=>?_⟩
 ·have hK:d<=((zB sz (ja D L l)).length:Int):=by rw[je,D7];omega
  refine(Zn hi R d d1 hK).mono ?_;rintro _ hq ⟨rfl,eq⟩;rw[eq,<-hD,Sr (by omega) (by omega) (by rw[D7];omega)];obtain⟨y,hy⟩:∃y,y=(ja D L l).getD ((ja D L l).length-D) 0:=⟨_,rfl⟩;rw[<-hy];have hrep:ja D L (l+1)=ja D L l++[y]:=by rw[ja,<-hy]
  refine⟨_,rfl,fun b1 hb1=>?_⟩;have hrb':h' b≠none:=by obtain⟨_,_,_,hb,_⟩:=R;rw[hb];simp
  have s1:qaB h' (upd h' b1 (.cells (ints .u8 [y]) 5)):=Sub.zC hb1;have P1:=P.sub s1;have P2:Part .u8 (upd h' b1 (.cells (ints .u8 [y]) 5)) (.slice a l c) ((ja D L l).drop L.length):=P1;refine yA hi (R.sub.trans s1) P2 N (ys:=[y]) zo.new (by rw[hll];simp only[List.length_singleton];omega) fun v1 h1 o1 n1 s2 keep hblk=>?_
  obtain⟨a3,c3,rfl,_,_⟩:=o1.ints;have keep':∀x,upd h' b1 (.cells (ints .u8 [y]) 5) x≠none->zh (.slice a l c)≠some x->h1 x=upd h' b1 (.cells (ints .u8 [y]) 5) x:=keep;have R1:RingAt h0 h1 b T sz (zB sz (ja D L l)):=by
   obtain⟨ds,at_,m,hb,RS,_,hn⟩:=R.mono s1;refine⟨ds,at_,m,?_,RS,s2,hn⟩;rw[keep' b (by rw[hb];simp) hne];exact hb
  have hne1:zh (.slice a3 ((ja D L l).drop L.length++[y]).length c3)≠some b:=by
   rcases hblk with e | e
   ·rw[e];exact hne
   ·intro e2;have h3:upd h' b1 (.cells (ints .u8 [y]) 5) b=none:=e b e2;obtain⟨_,_,_,hb,_⟩:=R.mono s1;rw[hb]at h3;cases h3
  intro b2 hb2;have hne2:b2≠b:=fun e=>by
   obtain⟨_,_,_,hb,_⟩:=R1;rw[e,hb]at hb2;cases hb2
  have s3:qaB h1 (upd h1 b2 (.cells (ints .u8 [y]) 5)):=Sub.zC hb2;refine(Sq hi (R1.mono s3) (some ⟨b2,0,none⟩) 1 [y] (Nat.le_refl _) (by simp) (fun h'' hh=>?_)).mono ?_
  ·have hk:h'' b2=(upd h1 b2 (.cells (ints .u8 [y]) 5)) b2:=hh b2 hne2;rw[upd_same]at hk;intro i x hxi;refine⟨_,rfl,?_⟩;rw[yR];simp only[zj,hk];exact OJ (sp:=[]) (xs:=[y]) hxi
  ·rintro _ h3 ⟨rfl,R3,f3⟩;rw[BW,<-hrep]at R3;have w4:IntKind.i64.wrap ((l:Int)+1)=((l+1:Nat):Int):=zr;have e1:(ja D L l).drop L.length++[y]=(ja D L (l+1)).drop L.length:=by
    rw[hrep,List.drop_append_of_le_length (by rw[D7];omega)]
   have e2:((ja D L (l+1)).drop L.length).length=l+1:=by rw[List.length_drop,D7];omega
   rw[e1]at o1 n1 hne1 ⊢;rw[w4,zd,zc,ze,e2];rw[e2]at o1 n1 hne1;exact⟨rfl,⟨a3,c3,l+1,rfl,by omega,Part.keep (o1.sub s3) (fun z hz=>f3 z (fun e=>hne1 (e▸hz))),n1,hne1,R3⟩,by simp only[vB,vA,toInt_int];omega⟩
 ·obtain rfl:l=n.toNat:=by omega
  exact⟨P,N,R⟩
end
end
variable {u1:Value}
section
abbrev kT:=Int×List Int×Int×Unit
def xx:Ty Value kT:=NV (BV (HX .i64) (BV tB (BV (HX .i64) (NU))))
theorem Uo{x:kT}(H:xx.R h v x):∃u1,v=.agg #[Value.int .i64 x.1,u1,Value.int .i64 x.2.2.1]/\tB.R h u1 x.2.1:=by
 obtain⟨_,rfl,_,_,rfl,(rfl:_=_),⟨u1,_,rfl,H1,⟨_,_,rfl,(rfl:_=_),⟨rfl⟩⟩⟩⟩:=H;exact⟨u1,rfl,H1⟩
theorem Ef{x:kT}(H:xx.O h v x):∃u1,v=.agg #[Value.int .i64 x.1,u1,Value.int .i64 x.2.2.1]/\tB.O h u1 x.2.1:=by
 obtain⟨_,rfl,_,_,rfl,(rfl:_=_),⟨u1,_,rfl,H1,⟨_,_,rfl,(rfl:_=_),⟨rfl⟩,d2⟩,d1⟩,d0⟩:=H;exact⟨u1,rfl,H1⟩
theorem IK{x:kT}(H1:tB.O h u1 x.2.1):xx.O h (.agg #[Value.int .i64 x.1,u1,Value.int .i64 x.2.2.1]) x:=by
 unfold xx;simp only[LJ,IZ,QN,QO,F6,HZ,HY,or_false,not_false_eq_true,implies_true,and_true,true_and,forall_false]
 first | exact H1 | simp_all
theorem Hu{x:kT}:xx.B (.agg #[Value.int .i64 x.1,u1,Value.int .i64 x.2.2.1]) b<->tB.B u1 b:=by
 unfold xx;simp only[QM,F6,HZ,HY,false_or,or_false]
theorem Uq{x:kT}(H:xx.R h v x):∃a1 c1,v=.agg #[Value.int .i64 x.1,.slice a1 x.2.1.length c1,Value.int .i64 x.2.2.1]:=by
 obtain⟨u1,rfl,H1⟩:=Uo H;obtain⟨a1,c1,rfl,_⟩:=H1;exact⟨_,_,rfl⟩
theorem Pg{e0 e1 e2:Value}{x:kT}(H:xx.O h (.agg #[e0,e1,e2]) x):tB.O h e1 x.2.1:=by
 unfold xx at H;simp only[LJ,IZ]at H;exact H.2.1.1
variable {x:kT}
def Jn(x:kT):Prop:=smB x.2.1
end
end
end Go.Proofs.YtopmdepgpabipaaGreatDoor
