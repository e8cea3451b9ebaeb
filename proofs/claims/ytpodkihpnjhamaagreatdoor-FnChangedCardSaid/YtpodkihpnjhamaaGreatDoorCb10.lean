import Derived.Test.YtpodkihpnjhamaaGreatDoorCb3
import Derived.Test.YtpodkihpnjhamaaGreatDoorCb4
import Derived.Test.YtpodkihpnjhamaaGreatDoorCb5
import Derived.Test.YtpodkihpnjhamaaGreatDoorCb6
import Derived.Test.YtpodkihpnjhamaaGreatDoorCb7
import Derived.Test.YtpodkihpnjhamaaGreatDoorCb8
import Derived.Test.YtpodkihpnjhamaaGreatDoorCb9
set_option maxRecDepth 100000
set_option maxHeartbeats 8000000
set_option linter.unusedVariables false
set_option linter.unusedSimpArgs false
set_option linter.unusedSectionVars false
namespace Go.Proofs.YtpodkihpnjhamaaGreatDoor
open Go Go.Eng Go.IntWalk
section
variable {q x:Nat}{B:List Int}
section
theorem zaJ{x y z w:Int}(h:B[q]? = some x)(g:B[q+1]? = some y)(i:B[q+2]? = some z)(j:B[q+3]? = some w)(hx:0<=x/\x<=255)(hy:0<=y/\y<=255)(hz:0<=z/\z<=255)(hw:0<=w/\w<=255) :
  tk B 32 ⟨((8*q:Nat):Int),0⟩=(⟨((8*(q+4):Nat):Int),0⟩,x+256*(y+256*(z+256*w))):=by
 have hl:=(vS.1 j).1;rw[Jn];have e1:=BP h hx;have e2:yo B (8*q+8) 8=y:=by rw[show 8*q+8=8*(q+1) by omega];exact BP g hy
 have e3:yo B (8*q+8+8) 8=z:=by rw[show 8*q+8+8=8*(q+2) by omega];exact BP i hz
 have e4:yo B (8*q+8+8+8) 8=w:=by rw[show 8*q+8+8+8=8*(q+3) by omega];exact BP j hw
 have e:yo B (8*q) 32=x+256*(y+256*(z+256*w)):=by
  rw[show(32:Nat)=8+(8+(8+8)) from rfl,Db,Db,Db,e1,e2,e3,e4];have e8:(2:Int)^8=256:=by decide
  simp only[e8]
 rw[e,show 8*q+32=8*(q+4) by omega]
theorem Xc(hx:x<4294967296)(H:AtY B q (le x 4)):tk B 32 ⟨((8*q:Nat):Int),0⟩=(⟨((8*(q+4):Nat):Int),0⟩,(x:Int)):=by
 have h0:=H 0 _ (by simp[le,mD];rfl);have h1:=H 1 _ (by simp[le,mD];rfl);have h2:=H 2 _ (by simp[le,mD];rfl);have h3:=H 3 _ (by simp[le,mD];rfl);rw[zaJ (by simpa using h0) h1 h2 h3 (by omega) (by omega) (by omega) (by omega)];congr 1;omega
end
variable {h:qaA}{v:Value}{xs:List Int}{S:Shared}
section
abbrev xD:=Int×Int×Int×Int×List Int×List Int×List Int×Int×Unit
def Bh:Ty Value xD:=Mh (kL (Cs .i64) (kL (Cs .i64) (kL (Cs .i64) (kL (Cs .i64) (kL tB (kL tB (kL tB (kL (Cs .i64) (Mf)))))))))
theorem Fq{x:xD}(H:Bh.R h v x):∃u4 u5 u6,v=.agg #[Value.int .i64 x.1,Value.int .i64 x.2.1,Value.int .i64 x.2.2.1,Value.int .i64 x.2.2.2.1,u4,u5,u6,Value.int .i64 x.2.2.2.2.2.2.2.1]/\tB.R h u4 x.2.2.2.2.1/\tB.R h u5 x.2.2.2.2.2.1/\tB.R h u6 x.2.2.2.2.2.2.1:=by
 obtain⟨_,rfl,_,_,rfl,(rfl:_=_),⟨_,_,rfl,(rfl:_=_),⟨_,_,rfl,(rfl:_=_),⟨_,_,rfl,(rfl:_=_),⟨u4,_,rfl,H4,⟨u5,_,rfl,H5,⟨u6,_,rfl,H6,⟨_,_,rfl,(rfl:_=_),⟨rfl⟩⟩⟩⟩⟩⟩⟩⟩⟩:=H;exact⟨u4,u5,u6,rfl,H4,H5,H6⟩
theorem SL{x:xD}{u4 u5 u6:Value}(H4:tB.R h u4 x.2.2.2.2.1)(H5:tB.R h u5 x.2.2.2.2.2.1)(H6:tB.R h u6 x.2.2.2.2.2.2.1):Bh.R h (.agg #[Value.int .i64 x.1,Value.int .i64 x.2.1,Value.int .i64 x.2.2.1,Value.int .i64 x.2.2.2.1,u4,u5,u6,Value.int .i64 x.2.2.2.2.2.2.2.1]) x:=by
 unfold Bh;simp only[ZG,XH,ZJ,ZL];exact⟨by first | rfl | trivial,by first | rfl | trivial,by first | rfl | trivial,by first | rfl | trivial,H4,H5,H6,by first | rfl | trivial,by first | rfl | trivial⟩
variable {w : Value}{x:xD}
def mE(x:xD):List Int:=x.2.2.2.2.1
def mN(x:xD):List Int:=x.2.2.2.2.2.1
def mC(x:xD):List Int:=x.2.2.2.2.2.2.1
def Dc(x:xD):Prop:=jI (mE x)/\jI (mN x)/\jI (mC x)
def kA(x:xD):Prop:=
 (0<=x.1/\x.1<=31)/\(0<=x.2.1/\x.2.1<=4294967295)/\(0<=x.2.2.1/\x.2.2.1<=255)/\(0<=x.2.2.2.1/\x.2.2.2.1<=255)/\(mE x).length<=65535/\(0<=x.2.2.2.2.2.2.2.1/\x.2.2.2.2.2.2.2.1<=100000) /\
 ((mE x).length=0\/x.1/4%2≠0)/\((mN x).length=0\/x.1/8%2≠0)/\((mC x).length=0\/x.1/16%2≠0)/\(0:Int)∉mN x/\(0:Int)∉mC x/\(mE x).length+(mN x).length+(mC x).length<=65536
instance (x:xD):Decidable (kA x):=by unfold kA;infer_instance
theorem noz{i:Nat}(h:(0:Int)∉xs.take i)(hi:i<xs.length)(hx:xs[i]≠0):(0:Int)∉xs.take (i+1):=by
 rw[mU,vQ hi];simp only[Option.toList_some,pO,uO,hZ];exact⟨h,fun e=>hx e.symm⟩
theorem Sg(hi:qaC S h)(a:Option Addr)(c:Nat)(xs:List Int)(hx:zk h .u8 a xs)(hl:xs.length<=1048576) :
  zb oPP S wM #[.slice a xs.length c] h (fun v h'=>v=.bool (decide ((0:Int)∉xs))/\h'=h):=by
 refine Ke (vs:=[.slice a xs.length c]) ⟨rfl,trivial⟩ hi ?_;simp only[Ff,Tr.wp,Ex.ev,coerce,toInt_int,za,zd,zi,ze,zj,yg,zB,arith,Cst.val,SV.den,zw,zY,zr,vA,vB,vC,vO,vU,vD,vE,vJ,vI,uA];refine⟨fun us h'=>∃i:Nat,us=[.int .i64 i]/\i<=xs.length/\h'=h/\(0:Int)∉xs.take i,fun us _=>xs.length-(toInt (us.getD 0 undef)).toNat,⟨0,rfl,by omega,rfl,by simp⟩,?_⟩;rintro x h' ⟨i,hx1,hi2,rfl,hz⟩;obtain rfl:x=i:=by simpa using hx1
 refine⟨fun hlt=>?_,fun hge=>?_⟩
 ·have hi3:i<xs.length:=by omega
  obtain⟨g1,g2⟩:=hx.cell (vQ hi3);have w2:IntKind.i64.wrap ((i:Int)+1)=((i+1:Nat):Int):=z9;refine⟨by simpa using g2,by omega,hlt,xs[i],by simpa[add_add]using g1,fun h0=>?_,fun h0=>?_⟩
  ·have h0:xs[i]=0:=by simpa using h0
   have hm:(0:Int)∈xs:=by rw[<-h0];exact pQ hi3
   rw[pR (fun h=>h hm)];exact⟨rfl,rfl⟩
  ·rw[w2];exact⟨⟨i+1,rfl,by omega,rfl,noz hz hi3 (by simpa using h0)⟩,by simp only[vA,toInt_int];omega⟩
 ·obtain rfl:i=xs.length:=by omega
  rw[nI]at hz;simp[hz]
theorem KE(hi:qaC S h)(a:Option Addr)(c:Nat)(xs:List Int)(hx:zk h .u8 a xs)(hl:xs.length<=1048576) :
  zb oPP S qP #[.slice a xs.length c] h (fun v h'=>v=.bool (decide ((0:Int)∉xs))/\h'=h):=by
 refine IQ (vs:=[.slice a xs.length c]) ⟨rfl,trivial⟩ hi ?_;simp only[Ez,Tr.wp,Ex.ev,coerce,toInt_int,za,zd,zi,ze,zj,yg,zB,arith,Cst.val,SV.den,zw,zY,zr,vA,vB,vC,vO,vU,vD,vE,vJ,vI,uA];refine⟨fun us h'=>∃i:Nat,us=[.int .i64 i]/\i<=xs.length/\h'=h/\(0:Int)∉xs.take i,fun us _=>xs.length-(toInt (us.getD 0 undef)).toNat,⟨0,rfl,by omega,rfl,by simp⟩,?_⟩;rintro x h' ⟨i,hx1,hi2,rfl,hz⟩;obtain rfl:x=i:=by simpa using hx1
 refine⟨fun hlt=>?_,fun hge=>?_⟩
 ·have hi3:i<xs.length:=by omega
  obtain⟨g1,g2⟩:=hx.cell (vQ hi3);have w2:IntKind.i64.wrap ((i:Int)+1)=((i+1:Nat):Int):=z9;refine⟨by simpa using g2,by omega,hlt,xs[i],by simpa[add_add]using g1,fun h0=>?_,fun h0=>?_⟩
  ·have h0:xs[i]=0:=by simpa using h0
   have hm:(0:Int)∈xs:=by rw[<-h0];exact pQ hi3
   rw[pR (fun h=>h hm)];exact⟨rfl,rfl⟩
  ·rw[w2];exact⟨⟨i+1,rfl,by omega,rfl,noz hz hi3 (by simpa using h0)⟩,by simp only[vA,toInt_int];omega⟩
 ·obtain rfl:i=xs.length:=by omega
  rw[nI]at hz;simp[hz]
theorem Si(hi:qaC S h)(n m:Int):zb oPP S yZ #[.int .i64 n,.int .i64 m] h (fun v h'=>v=.bool (decide (0<=n/\n<=m))/\h'=h):=by
 refine FE (vs:=[.int .i64 n,.int .i64 m]) ⟨rfl,rfl,trivial⟩ hi ?_;simp only[BD,Tr.wp,Ex.ev,coerce,toInt_int,za,xu,zB,Cst.val,SV.den,vA,vB,vO,uA];simp
theorem zcf:∀n:Nat,n<32->(Go.bits .and .i64 (n:Int) 4 != 0)=decide ((n:Int)/4%2≠0):=by decide +kernel
theorem zcg:∀n:Nat,n<32->(Go.bits .and .i64 (n:Int) 8 != 0)=decide ((n:Int)/8%2≠0):=by decide +kernel
theorem Zp:∀n:Nat,n<32->(Go.bits .and .i64 (n:Int) 16 != 0)=decide ((n:Int)/16%2≠0):=by decide +kernel
theorem Sj(hi:qaC S h)(a:Option Addr)(l c:Nat)(f g:Int)(b:Nat)(hf:zg h ⟨b,0,none⟩=some (.int .i64 f)) :
  zb oPP S xZ #[.slice a l c,.int .i64 g,.pointer (some ⟨b,0,none⟩)] h (fun v h'=>v=.bool (decide (l=0)||(Go.bits .and .i64 f g != 0))/\h'=h):=by
 refine FF (vs:=[.slice a l c,.int .i64 g,.pointer (some ⟨b,0,none⟩)]) ⟨rfl,rfl,rfl,trivial⟩ hi ?_;simp only[BE,Tr.wp,Ex.ev,coerce,toInt_int,za,zd,zi,ze,zj,zB,arith,Cst.val,SV.den,zw,zr,vA,vB,vC,vD,vE,vJ,vI,uA];refine⟨fun h0=>⟨f,by simpa[zp]using hf,fun _=>?_⟩,fun h0 _=>?_⟩
 ·have:¬l=0:=by simpa using h0
  simp[this]
 ·have:l=0:=by simpa using h0
  simp[this]
end
section
theorem Jo(hi:qaC S h){x:xD}(O:Bh.R h v x)(L:Dc x) :
  zb oPP S Aa #[v] h (fun v h'=>v=.bool (decide (kA x))/\h'=h):=by
 obtain⟨u4,u5,u6,rfl,H4,H5,H6⟩:=Fq O;obtain⟨a4,c4,rfl,hx4⟩:=H4;obtain⟨a5,c5,rfl,hx5⟩:=H5;obtain⟨a6,c6,rfl,hx6⟩:=H6;obtain⟨n0,n1,n2,n3,xs,ys,zs,n7,⟨⟩⟩:=x;have l4:xs.length<=1048576:=L.1;have l5:ys.length<=1048576:=L.2.1;have l6:zs.length<=1048576:=L.2.2;simp only at hx4 hx5 hx6;refine GW (vs:=[.int .i64 n0,.int .i64 n1,.int .i64 n2,.int .i64 n3,.slice a4 xs.length c4,.slice a5 ys.length c5,.slice a6 zs.length c6,.int .i64 n7]) ⟨rfl,rfl,rfl,rfl,rfl,rfl,rfl,rfl,trivial⟩ hi ?_;simp only[CN,Tr.wp,z8,Ex.ev,coerce,toInt_int,za,zd,zi,ze,xu,j7,zB,arith,Cst.val,SV.den,zq,zK,zz,zm,zl,zw,vF,vG,vA,vB,vC,vT,vO,vU,vD,vE,vJ,vI,vK,uA,vY,vL];refine⟨fun hbad=>?_,fun hok=>⟨fun hbad=>?_,fun hok2=>?_⟩⟩
 ·have hf:¬kA (n0,n1,n2,n3,xs,ys,zs,n7,()):=fun hv=>by
   simp at hbad;simp only[kA]at hv;omega
  rw[pR hf]
  all_goals exact⟨rfl,rfl⟩
 ·have h0:0<=n0/\n0<=31:=by simp at hok;omega
  have hf:¬kA (n0,n1,n2,n3,xs,ys,zs,n7,()):=fun hv=>by
   have w1:∀k:Int,1<=k->(IntKind.i64.wrap (n0.tdiv k)).tmod 2=n0/k%2:=fun k hk=>by
    have:=tdiv_le n0 k h0.1 hk;rw[i64_quo _ _ ⟨h0.1,by omega,hk⟩,uG this.1]
   rw[w1 4 (by omega),w1 8 (by omega),w1 16 (by omega)]at hbad;simp at hbad;simp only[kA,mE,mN,mC]at hv;omega
  rw[pR hf]
  all_goals exact⟨rfl,rfl⟩
 ·have h0:(0<=n0/\n0<=31)/\(0<=n1/\n1<=4294967295)/\(0<=n2/\n2<=255)/\(0<=n3/\n3<=255):=by simp at hok;omega
  have h2:(xs.length=0\/n0/4%2≠0)/\(ys.length=0\/n0/8%2≠0)/\(zs.length=0\/n0/16%2≠0):=by
   have w1:∀k:Int,1<=k->(IntKind.i64.wrap (n0.tdiv k)).tmod 2=n0/k%2:=fun k hk=>by
    have:=tdiv_le n0 k h0.1.1 hk;rw[i64_quo _ _ ⟨h0.1.1,by omega,hk⟩,uG this.1]
   rw[w1 4 (by omega),w1 8 (by omega),w1 16 (by omega)]at hok2;revert hok2;generalize xs.length=A;generalize ys.length=B;generalize zs.length=C;intro hok2;simp at hok2;omega
  have hm:kA (n0,n1,n2,n3,xs,ys,zs,n7,())<->xs.length<=65535/\(0:Int)∉ys/\(0:Int)∉zs/\xs.length+ys.length+zs.length<=65536/\0<=n7/\n7<=100000:=by
   simp only[kA,mE,mN,mC];obtain⟨a1,a2,a3,a4⟩:=h0;obtain⟨b1,b2,b3⟩:=h2;exact⟨fun⟨_,_,_,_,c1,c2,_,_,_,c3,c4,c5⟩=>⟨c1,c3,c4,c5,c2.1,c2.2⟩,fun⟨c1,c3,c4,c5,c6,c7⟩=>⟨a1,a2,a3,a4,c1,⟨c6,c7⟩,b1,b2,b3,c3,c4,c5⟩⟩
  have ww:IntKind.i64.wrap (IntKind.i64.wrap ((xs.length:Int)+ys.length)+zs.length)=xs.length+ys.length+zs.length:=by
   rw[i64_in ((xs.length:Int)+ys.length) (by omega),i64_in _ (by omega)]
  refine⟨fun g4=>?_,fun g4 _=>?_⟩
  ·refine(Sg hi a5 c5 ys hx5 l5).mono ?_;rintro _ hq ⟨rfl,eq⟩;rw[eq];refine⟨_,rfl,fun g5=>?_,fun g5 _=>?_⟩
   ·refine(Sg hi a6 c6 zs hx6 l6).mono ?_;rintro _ hq ⟨rfl,eq⟩;rw[eq];refine⟨_,rfl,fun _=>?_⟩;have g5:(0:Int)∉ys:=by simpa using g5
    rw[ww];refine⟨?_,rfl⟩;congr 1;rw[Bool.eq_iff_iff,vO (p:=kA _),hm];by_cases g6:(0:Int)∈zs
    ·simp[g6]
    ·simp[g6,g5];omega
   ·have g5:(0:Int)∈ys:=by simpa using g5
    rw[pR (fun h=>(hm.1 h).2.1 g5)]
    all_goals exact⟨rfl,rfl⟩
  ·rw[pR (fun h=>g4 (by have:=(hm.1 h).1;omega))]
   all_goals exact⟨rfl,rfl⟩
theorem Jp(hi:qaC S h){x:xD}(O:Bh.R h v x)(L:Dc x) :
  zb oPP S wZ #[v] h (fun v h'=>v=.bool (decide (kA x))/\qaB h h'):=by
 obtain⟨u4,u5,u6,rfl,H4,H5,H6⟩:=Fq O;obtain⟨a4,c4,rfl,hx4⟩:=H4;obtain⟨a5,c5,rfl,hx5⟩:=H5;obtain⟨a6,c6,rfl,hx6⟩:=H6;obtain⟨n0,n1,n2,n3,xs,ys,zs,n7,⟨⟩⟩:=x;have l4:xs.length<=1048576:=L.1;have l5:ys.length<=1048576:=L.2.1;have l6:zs.length<=1048576:=L.2.2;simp only at hx4 hx5 hx6;refine GU (vs:=[.int .i64 n0,.int .i64 n1,.int .i64 n2,.int .i64 n3,.slice a4 xs.length c4,.slice a5 ys.length c5,.slice a6 zs.length c6,.int .i64 n7]) ⟨rfl,rfl,rfl,rfl,rfl,rfl,rfl,rfl,trivial⟩ hi ?_;simp only[CM,Tr.wp,z8,Ex.ev,coerce,toInt_int,za,zd,zi,ze,zj,zB,arith,Cst.val,SV.den,zq,zK,zz,zm,zl,yF,zw,zr,vF,vG,nJ,vA,vB,vC,vO,vU,vD,vE,vJ,vI,vK,uA,vY,vL];intro b hb;obtain⟨g,hg⟩:∃g,g=upd h b (Obj.cells #[Value.int IntKind.i64 n0,Value.int IntKind.i64 n1,Value.int IntKind.i64 n2,Value.int IntKind.i64 n3,Value.slice a4 xs.length c4,Value.slice a5 ys.length c5,Value.slice a6 zs.length c6,Value.int IntKind.i64 n7] 28):=⟨_,rfl⟩;have s:qaB h g:=by rw[hg];exact Sub.zx hb
 have f0:zg g ⟨b,0,none⟩=some (.int .i64 n0):=by rw[hg];simp[zg,upd]
 have f1:zg g ⟨b,1,none⟩=some (.int .i64 n1):=by rw[hg];simp[zg,upd]
 have f2:zg g ⟨b,2,none⟩=some (.int .i64 n2):=by rw[hg];simp[zg,upd]
 have f3:zg g ⟨b,3,none⟩=some (.int .i64 n3):=by rw[hg];simp[zg,upd]
 have f4:zg g ⟨b,4,none⟩=some (.slice a4 xs.length c4):=by rw[hg];simp[zg,upd]
 have f5:zg g ⟨b,5,none⟩=some (.slice a5 ys.length c5):=by rw[hg];simp[zg,upd]
 have f6:zg g ⟨b,6,none⟩=some (.slice a6 zs.length c6):=by rw[hg];simp[zg,upd]
 have f7:zg g ⟨b,7,none⟩=some (.int .i64 n7):=by rw[hg];simp[zg,upd]
 have gi:=hi.sub s;rw[<-hg];have fin:∀ {p:Prop},(kA (n0,n1,n2,n3,xs,ys,zs,n7,())->p)->¬p->(Value.bool false=Value.bool (decide (kA (n0,n1,n2,n3,xs,ys,zs,n7,())))/\qaB h g):=fun hp hn=>by
  rw[pR (fun hv=>hn (hp hv))];exact⟨rfl,s⟩
 simp only[zp,uI,uE];refine⟨_,f0,(Si gi n0 31).mono ?_⟩;rintro _ hq ⟨rfl,eq⟩;rw[eq];refine⟨_,rfl,fun e0=>?_,fun e0 _=>fin (fun h=>h.1) (nS e0)⟩;have e0:=nX e0;refine⟨_,f1,(Si gi n1 4294967295).mono ?_⟩;rintro _ hq ⟨rfl,eq⟩;rw[eq];refine⟨_,rfl,fun e1=>?_,fun e1 _=>fin (fun h=>h.2.1) (nS e1)⟩;have e1:=nX e1;refine⟨_,f2,(Si gi n2 255).mono ?_⟩;rintro _ hq ⟨rfl,eq⟩;rw[eq];refine⟨_,rfl,fun e2=>?_,fun e2 _=>fin (fun h=>h.2.2.1) (nS e2)⟩;have e2:=nX e2;refine⟨_,f3,(Si gi n3 255).mono ?_⟩;rintro _ hq ⟨rfl,eq⟩;rw[eq];refine⟨_,rfl,fun e3=>?_,fun e3 _=>fin (fun h=>h.2.2.2.1) (nS e3)⟩;have e3:=nX e3;refine⟨_,_,_,f4,fun e4=>?_,fun e4 _=>fin (fun h=>h.2.2.2.2.1) (fun h=>e4 (by have h:xs.length<=65535:=h;omega))⟩;refine⟨_,f7,(Si gi n7 100000).mono ?_⟩;rintro _ hq ⟨rfl,eq⟩;rw[eq];refine⟨_,rfl,fun e5=>?_,fun e5 _=>fin (fun h=>h.2.2.2.2.2.1) (nS e5)⟩;have e5:=nX e5;have o4:(Go.bits .and .i64 n0 4 != 0)=decide (n0/4%2≠0):=by
  have:=zcf n0.toNat (by omega);rwa[Int.toNat_of_nonneg (by omega)]at this
 refine⟨_,_,_,f4,(Sj gi a4 xs.length c4 n0 4 b f0).mono ?_⟩;rintro _ hq ⟨rfl,eq⟩;rw[eq,o4,<-Bool.decide_or];refine⟨_,rfl,fun e6=>?_,fun e6 _=>fin (fun h=>h.2.2.2.2.2.2.1) (nS e6)⟩;have e6:=nX e6;have o5:(Go.bits .and .i64 n0 8 != 0)=decide (n0/8%2≠0):=by
  have:=zcg n0.toNat (by omega);rwa[Int.toNat_of_nonneg (by omega)]at this
 refine⟨_,_,_,f5,(Sj gi a5 ys.length c5 n0 8 b f0).mono ?_⟩;rintro _ hq ⟨rfl,eq⟩;rw[eq,o5,<-Bool.decide_or];refine⟨_,rfl,fun e7=>?_,fun e7 _=>fin (fun h=>h.2.2.2.2.2.2.2.1) (nS e7)⟩;have e7:=nX e7;have o6:(Go.bits .and .i64 n0 16 != 0)=decide (n0/16%2≠0):=by
  have:=Zp n0.toNat (by omega);rwa[Int.toNat_of_nonneg (by omega)]at this
 refine⟨_,_,_,f6,(Sj gi a6 zs.length c6 n0 16 b f0).mono ?_⟩;rintro _ hq ⟨rfl,eq⟩;rw[eq,o6,<-Bool.decide_or];refine⟨_,rfl,fun e8=>?_,fun e8 _=>fin (fun h=>h.2.2.2.2.2.2.2.2.1) (nS e8)⟩;have e8:=nX e8;refine⟨_,_,_,f5,(KE gi a5 c5 ys (zk.sub hx5 s) l5).mono ?_⟩;rintro _ hq ⟨rfl,eq⟩;rw[eq];refine⟨_,rfl,fun e9=>?_,fun e9 _=>fin (fun h=>h.2.2.2.2.2.2.2.2.2.1) (nS e9)⟩;have e9:=nX e9;refine⟨_,_,_,f6,(KE gi a6 c6 zs (zk.sub hx6 s) l6).mono ?_⟩;rintro _ hq ⟨rfl,eq⟩;rw[eq];refine⟨_,rfl,fun e10=>?_,fun e10 _=>fin (fun h=>h.2.2.2.2.2.2.2.2.2.2.1) (nS e10)⟩;have e10:=nX e10;have ww:IntKind.i64.wrap (IntKind.i64.wrap ((xs.length:Int)+ys.length)+zs.length)=xs.length+ys.length+zs.length:=by
  rw[i64_in ((xs.length:Int)+ys.length) (by omega),i64_in _ (by omega)]
 refine⟨_,_,_,f4,_,_,_,f5,_,_,_,f6,fun _=>⟨?_,s⟩⟩;rw[ww];congr 1;rw[Bool.eq_iff_iff,vO (p:=kA _),vO];exact⟨fun hl=>⟨e0,e1,e2,e3,(by show xs.length<=65535;omega),e5,e6,e7,e8,e9,e10,(by show xs.length+ys.length+zs.length<=65536;omega)⟩,fun h=>by have h:xs.length+ys.length+zs.length<=65536:=h.2.2.2.2.2.2.2.2.2.2.2;omega⟩
end
variable {cur es ys zs:List Int}{a a4 a5 a6 a8:Option Addr}{c c6 c8:Nat}{u:Value}{h0:qaA}
section
def jJ(xs:List Int):Nat:=(x8 0#32 xs).toNat
theorem DT:jJ xs<4294967296:=(x8 0#32 xs).isLt
def Q4(xs:List Int):List Int:=zC xs++le (jJ xs) 4++le xs.length 4
def OB(f:Int)(es:List Int):List Int:=if f/4%2=1 then le es.length 2++es else []
def Dw(f k:Int)(es:List Int):List Int:=if f/k%2=1 then es++[0]else []
def OD(f:Int)(cur:List Int):List Int:=if f/2%2=1 then le (jJ cur%65536) 2 else []
def G5(cur xs:List Int):List Int:=cur++Q4 xs
def G4(f:Int)(cur xs:List Int):List Int:=G5 (cur++OD f cur) xs
def G3(f:Int)(zs cur xs:List Int):List Int:=G4 f (cur++Dw f 16 zs) xs
def G2(f:Int)(ys zs cur xs:List Int):List Int:=G3 f zs (cur++Dw f 8 ys) xs
def G1(f:Int)(es ys zs cur xs:List Int):List Int:=G2 f ys zs (cur++OB f es) xs
def jc(x:xD):List Int:=[31,139,8,x.1]++le x.2.1.toNat 4++[x.2.2.1,x.2.2.2.1]
def yf(x:xD)(xs:List Int):List Int:=
 if kA x/\x.2.2.2.2.2.2.2.1=xs.length then G1 x.1 (mE x) (mN x) (mC x) (jc x) xs else []
def L4(x:xD):Prop:=(∀y∈mE x,0<=y/\y<=255)/\(∀y∈mN x,0<=y/\y<=255)/\(∀y∈mC x,0<=y/\y<=255)
def PG(h0:qaA)(ys:List Int)(v:Value)(h':qaA):Prop:=tB.O h' v ys/\tB.New h0 v/\qaB h0 h'
def okC(xs:List Int):Prop:=∀x∈xs,0<=x/\x<=255
theorem okC.okB(H:okC xs):∀x∈xs,0<=x/\x<256:=fun x hx=>by have:=H x hx;omega
theorem okC.app(H:okC xs)(G:okC ys):okC (xs++ys):=fun x hx=>by
 rcases pO.1 hx with h | h
 ·exact H x h
 ·exact G x h
theorem okC.le{x n:Nat}:okC (le x n):=fun y hy=>by have:=zaF y hy;omega
theorem At(x:Nat)(hx:x<18446744073709551616:=by omega):IntKind.u64.wrap (x:Int)=(x:Int):=u64_in _ (by omega)
theorem Xd(hi:qaC S h0)(s:qaB h0 h)(O:tB.O h0 (.slice a8 xs.length c8) xs)(hw:okC xs)(L:xs.length<=100000)(P:Part .u8 h (.slice a cur.length c) cur)(N:qaD h0 (.slice a cur.length c))(hl:cur.length<=3000000)(K0:Kt)
  (e0 e1 e2 e3 e4 e5 e6 e7 e9 e10 e11 e12 e13 e14 e15 e16 e17:Value) :
  gs5.wp oPP S yk (PG h0 (G5 cur xs)) [e0,e1,e2,e3,e4,e5,e6,e7,.slice a8 xs.length c8,e9,e10,e11,e12,e13,e14,e15,e16,e17,.slice a cur.length c] h [K0]:=by
 simp only[gs5,Tr.wp,z8,Ex.ev,coerce,toInt_int,zd,zi,ze,Cst.val,SV.den,zq,zK,zz,zm,zl,zw,vF,vG,vA,vB,vD,vE,vJ,vI,vK,vY,vL];have fl:=JU hw;obtain⟨_,_,ei,_,gx⟩:=Part.ints O;cases ei
 have LB:jI xs:=by show xs.length<=_;omega
 refine(CU (hi.sub s) (O.sub s) hw LB).mono ?_;rintro v1 h1 ⟨O1,N1,s1⟩;obtain⟨a1,c1,rfl,_,g1⟩:=Part.ints O1;refine⟨_,_,_,rfl,?_⟩;refine zI hi (s.trans s1) (P.sub s1) N g1 (by omega) fun v2 h2 o2 n2 s2 _ _=>?_
 obtain⟨a2,c2,rfl,_,_⟩:=o2.ints;refine(ju (hi.sub s2) 0#32 _ _ xs (gx.sub s2) hw.okB (by omega)).mono ?_;rintro _ h3 ⟨rfl,rfl⟩;refine⟨_,rfl,?_⟩;have wc:IntKind.u64.wrap ((x8 0#32 xs).toNat:Int)=((jJ xs:Nat):Int):=At _ (by have:=DT (xs:=xs);unfold jJ at this;omega);rw[wc];refine(Bf (hi.sub s2) (jJ xs) (by have:=DT (xs:=xs);omega) 4 (by omega) false).mono ?_;rintro v4 h4 ⟨O4,N4,s4⟩;obtain⟨a4,c4,rfl,_,g4⟩:=Part.ints O4;refine⟨_,_,_,rfl,?_⟩;simp only[ze,zd,zi];refine zI hi (s2.trans s4) (o2.sub s4) n2 g4 (by rw[xI,vR];omega) fun v5 h5 o5 n5 s5 _ _=>?_
 obtain⟨a5,c5,rfl,_,_⟩:=o5.ints;have wl:IntKind.u64.wrap (xs.length:Int)=((xs.length:Nat):Int):=At _;rw[wl];refine(Bf (hi.sub s5) xs.length (by omega) 4 (by omega) false).mono ?_;rintro v6 h6 ⟨O6,N6,s6⟩;obtain⟨a6,c6,rfl,_,g6⟩:=Part.ints O6;refine⟨_,_,_,rfl,?_⟩;simp only[ze,zd,zi];refine zI hi (s5.trans s6) (o5.sub s6) n5 g6 (by simp only[xI,vR];omega) fun v7 h7 o7 n7 s7 _ _=>?_
 obtain⟨a7,c7,rfl,_,_⟩:=o7.ints;refine⟨?_,n7,s7⟩;have e:G5 cur xs=cur++zC xs++kD (jJ xs) 4 false++kD xs.length 4 false:=by simp[G5,Q4,kD]
 rw[e];exact o7
theorem UU{n k:Int}(h:0<=n/\n<=31)(hk:1<=k):(IntKind.i64.wrap (n.tdiv k)).tmod 2=n/k%2:=by
 have:=tdiv_le n k h.1 hk;rw[i64_quo _ _ ⟨h.1,by omega,hk⟩,uG this.1]
theorem Xe(hi:qaC S h0)(s:qaB h0 h)(O:tB.O h0 (.slice a8 xs.length c8) xs)(hw:okC xs)(L:xs.length<=100000)(P:Part .u8 h (.slice a cur.length c) cur)(N:qaD h0 (.slice a cur.length c))(hl:cur.length<=2000000)(hc:okC cur)(n0:Int)(h0f:0<=n0/\n0<=31)(K0:Kt)
  (e1 e2 e3 e4 e5 e6 e7 e9 e10 e11 e12 e13 e14 e15 e16:Value) :
  gs4.wp oPP S yk (PG h0 (G4 n0 cur xs)) [.int .i64 n0,e1,e2,e3,e4,e5,e6,e7,.slice a8 xs.length c8,e9,e10,e11,e12,e13,e14,e15,e16,.slice a cur.length c] h [K0]:=by
 simp only[gs4,Tr.wp,z8,Ex.ev,coerce,toInt_int,za,zd,zi,ze,zB,arith,Cst.val,SV.den,zq,zK,zz,zm,zl,zw,vF,vG,vA,vB,vC,vT,vD,vE,vJ,vI,vK,vY,vL,UU h0f (show(1:Int)<=2 by omega)];refine⟨fun hy=>?_,fun hn=>?_⟩
 ·have e:G4 n0 cur xs=G5 (cur++kD (jJ cur%65536) 2 false) xs:=by unfold G4 OD;rw[vP (by simpa using hy)];rfl
  rw[e];obtain⟨_,_,ei,_,gc⟩:=P.ints;cases ei
  refine(ju (hi.sub s) 0#32 _ _ cur gc hc.okB (by omega)).mono ?_;rintro _ h3 ⟨rfl,rfl⟩;refine⟨_,rfl,?_⟩;have wc:IntKind.u64.wrap (((x8 0#32 cur).toNat:Int).tmod 65536)=((jJ cur%65536:Nat):Int):=by
   have:=DT (xs:=cur);unfold jJ at this ⊢;rw[uG (by omega),u64_in _ (by omega)];omega
  rw[wc];refine(Bf (hi.sub s) (jJ cur%65536) (by omega) 2 (by omega) false).mono ?_;rintro v4 h4 ⟨O4,N4,s4⟩;obtain⟨a4,c4,rfl,_,g4⟩:=Part.ints O4;refine⟨_,_,_,rfl,?_⟩;refine zI hi (s.trans s4) (P.sub s4) N g4 (by rw[xI];omega) fun v5 h5 o5 n5 s5 _ _=>?_
  obtain⟨a5,c5,rfl,_,_⟩:=o5.ints;simp only[ze,zd,zi];exact fun _=>Xd hi s5 O hw L o5 n5 (by rw[vR,xI];omega) K0 _ _ _ _ _ _ _ _ _ _ _ _ _ _ _ _ _
 ·have e:G4 n0 cur xs=G5 cur xs:=by unfold G4 OD;rw[vM (by simpa using hn),vK]
  rw[e];exact fun _=>Xd hi s O hw L P N (by omega) K0 _ _ _ _ _ _ _ _ _ _ _ _ _ _ _ _ _
theorem Xf(hi:qaC S h0)(s:qaB h0 h)(O:tB.O h0 (.slice a8 xs.length c8) xs)(hw:okC xs)(L:xs.length<=100000)(gz:zk h0 .u8 a6 zs)(lz:zs.length<=100000)(hz:okC zs)(P:Part .u8 h (.slice a cur.length c) cur)(N:qaD h0 (.slice a cur.length c))(hl:cur.length<=1000000)(hc:okC cur)(n0:Int)(h0f:0<=n0/\n0<=31)(K0:Kt)
  (e1 e2 e3 e4 e5 e7 e9 e10 e11 e12 e13 e14 e15:Value) :
  gs3.wp oPP S yk (PG h0 (G3 n0 zs cur xs)) [.int .i64 n0,e1,e2,e3,e4,e5,.slice a6 zs.length c6,e7,.slice a8 xs.length c8,e9,e10,e11,e12,e13,e14,e15,.slice a cur.length c] h [K0]:=by
 simp only[gs3,Tr.wp,Ex.ev,coerce,toInt_int,za,zd,zi,ze,zB,arith,Cst.val,vA,vB,vC,vT,vD,vE,vJ,vI,UU h0f (show(1:Int)<=16 by omega)];refine⟨fun hy=>?_,fun hn=>?_⟩
 ·have e:G3 n0 zs cur xs=G4 n0 (cur++(zs++[0])) xs:=by unfold G3 Dw;rw[vP (by simpa using hy)]
  rw[e];refine zI hi s P N (gz.sub s) (by omega) fun v5 h5 o5 n5 s5 _ _=>?_
  intro b hb;have s6:qaB h5 (upd h5 b (.cells #[.int .u8 0] 5)):=Sub.zx hb;obtain⟨a5,c5,rfl,_,_⟩:=o5.ints;simp only[ze,zd,zi];refine zI (ys:=[0]) hi (s5.trans s6) (o5.sub s6) n5 (zk.new (xs:=[0])) (by simp only[vR,uD];omega) fun v7 h7 o7 n7 s7 _ _=>?_
  rw[vX]at o7;obtain⟨a7,c7,rfl,_,_⟩:=o7.ints;exact fun _=>Xe hi s7 O hw L o7 n7 (by simp only[vR,uD];omega) (hc.app (hz.app fun y hy=>by simp at hy;omega)) n0 h0f K0 _ _ _ _ _ _ _ _ _ _ _ _ _ _ _
 ·have e:G3 n0 zs cur xs=G4 n0 cur xs:=by unfold G3 Dw;rw[vM (by simpa using hn),vK]
  rw[e];exact fun _=>Xe hi s O hw L P N (by omega) hc n0 h0f K0 _ _ _ _ _ _ _ _ _ _ _ _ _ _ _
theorem Xg(hi:qaC S h0)(s:qaB h0 h){c c8 c6 c5:Nat}(O:tB.O h0 (.slice a8 xs.length c8) xs)(hw:okC xs)(L:xs.length<=100000)(gy:zk h0 .u8 a5 ys)(ly:ys.length<=100000)(hy:okC ys)(gz:zk h0 .u8 a6 zs)(lz:zs.length<=100000)(hz:okC zs)(P:Part .u8 h (.slice a cur.length c) cur)(N:qaD h0 (.slice a cur.length c))(hl:cur.length<=500000)(hc:okC cur)(n0:Int)(h0f:0<=n0/\n0<=31)(K0:Kt)
  (e1 e2 e3 e4 e7 e9 e10 e11 e12 e13 e14:Value) :
  gs2.wp oPP S yk (PG h0 (G2 n0 ys zs cur xs)) [.int .i64 n0,e1,e2,e3,e4,.slice a5 ys.length c5,.slice a6 zs.length c6,e7,.slice a8 xs.length c8,e9,e10,e11,e12,e13,e14,.slice a cur.length c] h [K0]:=by
 simp only[gs2,Tr.wp,Ex.ev,coerce,toInt_int,za,zd,zi,ze,zB,arith,Cst.val,vA,vB,vC,vT,vD,vE,vJ,vI,UU h0f (show(1:Int)<=8 by omega)];refine⟨fun hyy=>?_,fun hn=>?_⟩
 ·have e:G2 n0 ys zs cur xs=G3 n0 zs (cur++(ys++[0])) xs:=by unfold G2 Dw;rw[vP (by simpa using hyy)]
  rw[e];refine zI hi s P N (gy.sub s) (by omega) fun v5 h5 o5 n5 s5 _ _=>?_
  intro b hb;have s6:qaB h5 (upd h5 b (.cells #[.int .u8 0] 5)):=Sub.zx hb;obtain⟨a5',c5',rfl,_,_⟩:=o5.ints;simp only[ze,zd,zi];refine zI (ys:=[0]) hi (s5.trans s6) (o5.sub s6) n5 (zk.new (xs:=[0])) (by simp only[vR,uD];omega) fun v7 h7 o7 n7 s7 _ _=>?_
  rw[vX]at o7;obtain⟨a7,c7,rfl,_,_⟩:=o7.ints;exact fun _=>Xf hi s7 O hw L gz lz hz o7 n7 (by simp only[vR,uD];omega) (hc.app (hy.app fun y hy=>by simp at hy;omega)) n0 h0f K0 _ _ _ _ _ _ _ _ _ _ _ _ _
 ·have e:G2 n0 ys zs cur xs=G3 n0 zs cur xs:=by unfold G2 Dw;rw[vM (by simpa using hn),vK]
  rw[e];exact fun _=>Xf hi s O hw L gz lz hz P N (by omega) hc n0 h0f K0 _ _ _ _ _ _ _ _ _ _ _ _ _
theorem zch(hi:qaC S h0)(s:qaB h0 h){c c8 c6 c5 c4:Nat}(O:tB.O h0 (.slice a8 xs.length c8) xs)(hw:okC xs)(L:xs.length<=100000)(ge:zk h0 .u8 a4 es)(le':es.length<=65535)(he:okC es)(gy:zk h0 .u8 a5 ys)(ly:ys.length<=100000)(hy:okC ys)(gz:zk h0 .u8 a6 zs)(lz:zs.length<=100000)(hz:okC zs)(P:Part .u8 h (.slice a cur.length c) cur)(N:qaD h0 (.slice a cur.length c))(hl:cur.length<=1000)(hc:okC cur)(n0:Int)(h0f:0<=n0/\n0<=31)(K0:Kt)
  (e1 e2 e3 e7 e9 e10 e11 e12 e13:Value) :
  gs1.wp oPP S yk (PG h0 (G1 n0 es ys zs cur xs)) [.int .i64 n0,e1,e2,e3,.slice a4 es.length c4,.slice a5 ys.length c5,.slice a6 zs.length c6,e7,.slice a8 xs.length c8,e9,e10,e11,e12,e13,.slice a cur.length c] h [K0]:=by
 simp only[gs1,Tr.wp,z8,Ex.ev,coerce,toInt_int,za,zd,zi,ze,zB,arith,Cst.val,SV.den,zq,zK,zz,zm,zl,zw,vF,vG,vA,vB,vC,vT,vD,vE,vJ,vI,vK,vY,vL,UU h0f (show(1:Int)<=4 by omega)];refine⟨fun hyy=>?_,fun hn=>?_⟩
 ·have e:G1 n0 es ys zs cur xs=G2 n0 ys zs (cur++kD es.length 2 false++es) xs:=by unfold G1 OB;rw[vP (by simpa using hyy),<-vX];rfl
  rw[e];rw[At es.length];refine(Bf (hi.sub s) es.length (by omega) 2 (by omega) false).mono ?_;rintro v4 h4 ⟨O4,N4,s4⟩;obtain⟨a4',c4',rfl,_,g4⟩:=Part.ints O4;refine⟨_,_,_,rfl,?_⟩;refine zI hi (s.trans s4) (P.sub s4) N g4 (by rw[xI];omega) fun v5 h5 o5 n5 s5 _ _=>?_
  obtain⟨a5',c5',rfl,_,_⟩:=o5.ints;simp only[ze,zd,zi];refine zI hi s5 o5 n5 (ge.sub s5) (by simp only[vR,xI];omega) fun v7 h7 o7 n7 s7 _ _=>?_
  obtain⟨a7,c7,rfl,_,_⟩:=o7.ints;exact fun _=>Xg hi s7 O hw L gy ly hy gz lz hz o7 n7 (by simp only[vR,xI];omega) ((hc.app okC.le).app he) n0 h0f K0 _ _ _ _ _ _ _ _ _ _ _
 ·have e:G1 n0 es ys zs cur xs=G2 n0 ys zs cur xs:=by unfold G1 OB;rw[vM (by simpa using hn),vK]
  rw[e];exact fun _=>Xg hi s O hw L gy ly hy gz lz hz P N (by omega) hc n0 h0f K0 _ _ _ _ _ _ _ _ _ _ _
theorem Kh(hi:qaC S h){x:xD}(O:Bh.R h v x)(hwm:L4 x)(LM:Dc x)(O2:tB.O h u xs)(hw:okC xs)(L:jI xs) :
  zb oPP S A0 #[v,u] h (fun v h'=>tB.O h' v (yf x xs)/\tB.New h v/\qaB h h'):=by
 have OM:=O;obtain⟨u4,u5,u6,rfl,H4,H5,H6⟩:=Fq O;obtain⟨a4,c4,rfl,hx4⟩:=H4;obtain⟨a5,c5,rfl,hx5⟩:=H5;obtain⟨a6,c6,rfl,hx6⟩:=H6;obtain⟨n0,n1,n2,n3,es,ys,zs,n7,⟨⟩⟩:=x;have l4:es.length<=1048576:=LM.1;have l5:ys.length<=1048576:=LM.2.1;have l6:zs.length<=1048576:=LM.2.2;simp only at hx4 hx5 hx6;obtain⟨a8,c8,rfl,hc8,hx8⟩:=Part.ints O2;refine Ie (vs:=[.int .i64 n0,.int .i64 n1,.int .i64 n2,.int .i64 n3,.slice a4 es.length c4,.slice a5 ys.length c5,.slice a6 zs.length c6,.int .i64 n7,.slice a8 xs.length c8]) ⟨rfl,rfl,rfl,rfl,rfl,rfl,rfl,rfl,rfl,trivial⟩ hi ?_;simp only[D5,Tr.wp,z8,Ex.ev,coerce,toInt_int,za,zd,zi,ze,j7,zB,Cst.val,SV.den,zq,zK,zz,zm,zl,zw,vF,vG,vA,vB,vD,vE,vJ,vI,vK,vY,vL];refine(Jo hi OM LM).mono ?_;rintro _ hq ⟨rfl,eq⟩;rw[eq];refine⟨_,rfl,fun hbad b hb=>?_,fun hok b hb=>?_⟩
 ·have e:yf (n0,n1,n2,n3,es,ys,zs,n7,()) xs=[]:=vM fun hh=>by
   rw[pZ hh.1]at hbad;have h2:n7=(xs.length:Int):=hh.2;simp only[fW,pJ,fN,vL]at hbad
   first | exact hbad h2 | (simp at hbad;exact hbad h2)
  rw[e];exact⟨(Own.made (k:=.u8) (h:=h) (b:=b) (T:=5) []).part,New.of hb,Sub.zx hb⟩
 ·have hv:kA (n0,n1,n2,n3,es,ys,zs,n7,())/\n7=xs.length:=by
   by_cases hv:kA (n0,n1,n2,n3,es,ys,zs,n7,())
   ·rw[pZ hv]at hok;simp at hok;exact⟨hv,hok⟩
   ·rw[pR hv]at hok;simp at hok
  have e:yf (n0,n1,n2,n3,es,ys,zs,n7,()) xs=G1 n0 es ys zs (jc (n0,n1,n2,n3,es,ys,zs,n7,())) xs:=vP hv;rw[e];obtain⟨⟨f0,f1⟩,⟨t0,t1⟩,⟨x0,x1⟩,⟨o0,o1⟩,le',⟨m0,m1⟩,_,_,_,_,_,lsum⟩:=hv.1;have h7:=hv.2;simp only[mE,mN,mC]at le' lsum;simp only at f0 f1 t0 t1 x0 x1 o0 o1 m0 m1;obtain⟨tn,rfl⟩:=vZ t0;have w0:IntKind.u8.wrap n0=n0:=by rw[pG];omega
  have w2:IntKind.u8.wrap n2=n2:=by rw[pG];omega
  have w3:IntKind.u8.wrap n3=n3:=by rw[pG];omega
  rw[w0,w2,w3,At tn];have s0:qaB h (upd h b (.cells (ints .u8 [31,139,8,n0]) 5)):=Sub.zx hb;refine(Bf (hi.sub s0) tn (by omega) 4 (by omega) false).mono ?_;rintro v4 h4 ⟨O4,N4,s4⟩;obtain⟨a4',c4',rfl,_,g4⟩:=Part.ints O4;refine⟨_,_,_,rfl,?_⟩;refine zI (xs:=[31,139,8,n0]) hi (s0.trans s4) ((Own.made (k:=.u8) (h:=h) (b:=b) (T:=5) [31,139,8,n0]).part.sub s4) (New.of hb) g4 (by rw[xI];simp) fun v5 h5 o5 n5 s5 _ _=>?_
  obtain⟨a5',c5',rfl,_,_⟩:=o5.ints;simp only[ze,zd,zi];intro b2 hb2;have s6:qaB h5 (upd h5 b2 (.cells (ints .u8 [n2,n3]) 5)):=Sub.zx hb2;refine zI (ys:=[n2,n3]) hi (s5.trans s6) (o5.sub s6) n5 (zk.new (xs:=[n2,n3])) (by simp[xI]) fun v7 h7' o7 n7' s7 _ _=>?_
  obtain⟨a7,c7,rfl,_,_⟩:=o7.ints;have eh:[31,139,8,n0]++kD tn 4 false++[n2,n3]=jc (n0,(tn:Int),n2,n3,es,ys,zs,n7,()):=by simp[jc,kD]
  have lh:(jc (n0,(tn:Int),n2,n3,es,ys,zs,n7,())).length=10:=by simp[jc,qB]
  rw[eh]at o7 n7' ⊢;exact zch hi s7 O2 hw (by omega) hx4 le' hwm.1 hx5 (by omega) hwm.2.1 hx6 (by omega) hwm.2.2 o7 n7' (by omega) (fun y hy=>by
   simp only[jc]at hy
   rcases pO.1 hy with hy | hy
   ·rcases pO.1 hy with hy | hy
    ·simp at hy;omega
    ·have:=okC.le y hy;omega
   ·simp at hy;omega) n0 ⟨f0,f1⟩ _ _ _ _ _ _ _ _ _ _
end
variable {n:Int}
section
theorem Xh(x k:Nat)(hk:k<=64):Int.fdiv (x:Int) (2^(min (k:Int).toNat IntKind.u64.bits))=((x/2^k:Nat):Int):=by
 have e:min (k:Int).toNat IntKind.u64.bits=k:=by show min (k:Int).toNat 64=k;omega
 rw[e,pS _ (by exact_mod_cast lE _)];push_cast;rfl
theorem zaK(x:Nat):Int.fdiv (x:Int) (2^(min (Int.toNat 8) IntKind.u64.bits))=((x/256:Nat):Int):=Xh x 8 (by omega)
theorem qC(hi:qaC S h0)(hs:qaB h0 h)(P:Part .u8 h (.slice a xs.length c) xs)(N:qaD h0 (.slice a xs.length c))(x:Nat)(n:Nat)(hn:n<=8:=by omega)(hl:xs.length<=3000000:=by omega) :
  zb oPP S xi #[.slice a xs.length c,.int .u64 x,.int .i64 n] h (fun v h'=>Part .u8 h' v (xs++le x n)/\qaD h0 v/\qaB h0 h'):=by
 refine Gi (vs:=[.slice a xs.length c,.int .u64 x,.int .i64 n]) ⟨rfl,rfl,rfl,trivial⟩ (hi.sub hs) ?_;simp only[BW,Tr.wp,Ex.ev,coerce,toInt_int,za,zd,zi,ze,zB,arith,Cst.val,SV.den,zY,vA,vB,vC,vO,vU,vD,vE,vJ,vI];refine⟨fun us h'=>∃(i:Nat) (a:Option Addr) (c:Nat),us=[.slice a (xs++le x i).length c,.int .u64 ((x/256^i:Nat):Int),.int .i64 i]/\i<=n/\Part .u8 h' (.slice a (xs++le x i).length c) (xs++le x i)/\qaD h0 (.slice a (xs++le x i).length c)/\qaB h0 h',
  fun us _=>n-(toInt (us.getD 2 undef)).toNat,⟨0,a,c,by simp[le],by omega,by simpa[le]using P,by simpa[le]using N,hs⟩,?_⟩
 rintro a1 l1 c1 y z h' ⟨i,a2,c2,hx1,hi2,P,N,s⟩;simp only[uQ,uT,pA,pL,uA]at hx1;obtain⟨⟨rfl,rfl,rfl⟩,rfl,rfl⟩:=hx1;refine⟨fun hlt=>?_,fun hge=>?_⟩
 ·have wb:IntKind.u8.wrap ((x/256^i:Nat):Int)=((x/256^i%256:Nat):Int):=by
   generalize x/256^i=q;rw[pG];omega
  have wd:((x/256^i/256:Nat):Int)=((x/256^(i+1):Nat):Int):=by rw[gW,<-Nat.div_div_eq_div_mul]
  have w2:IntKind.i64.wrap ((i:Int)+1)=((i+1:Nat):Int):=z9;have hlt2:i<n:=by omega
  rw[zaK,wb,wd,w2];intro b hnb;have sb:qaB h' (upd h' b (.cells (ints .u8 [((x/256^i%256:Nat):Int)]) 5)):=Sub.zx hnb;refine zI hi (s.trans sb) (P.sub sb) N (ys:=[((x/256^i%256:Nat):Int)]) (zk.new) (by simp only[uD,vR,qB];omega) fun v' h3 o n3 s4 _ _=>?_
  rw[vX,<-le_succ]at o;obtain⟨a4,c4,rfl,_,_⟩:=o.ints;simp only[ze,zd,zi];exact⟨⟨i+1,a4,c4,rfl,by omega,o,n3,s4⟩,by simp only[vB,vA,toInt_int,vV];omega⟩
 ·obtain rfl:i=n:=by omega
  exact⟨P,N,s⟩
variable {s0:Nat -> Prop}
theorem Xi(hi:qaC (yb oPP s0) h0)(s:qaB h0 h)(O:tB.O h0 (.slice a8 xs.length c8) xs)(hw:okC xs)(L:xs.length<=100000)(P:Part .u8 h (.slice a cur.length c) cur)(N:qaD h0 (.slice a cur.length c))(hl:cur.length<=2000000)(K0:Kt)
  (e0 e1 e2 e3 e4 e5 e6 e7 e9 e10 e11 e12 e13 e14 e15 e16:Value) :
  gi5.wp oPP (yb oPP s0) yk (PG h0 (G5 cur xs)) [e0,e1,e2,e3,e4,e5,e6,e7,.slice a8 xs.length c8,e9,e10,e11,e12,e13,e14,e15,e16,.slice a cur.length c] h [K0]:=by
 simp only[gi5,Tr.wp,z8,Ex.ev,coerce,toInt_int,zd,zi,ze,Cst.val,SV.den,zq,zK,zz,zm,zl,zw,vF,vG,vA,vB,vD,vE,vJ,vI,vK,vY,vL];have fl:=JU hw;obtain⟨_,_,ei,hcx,gx⟩:=Part.ints O;cases ei
 have LB:jI xs:=by show xs.length<=_;omega
 refine(CV (hi.sub s) (O.sub s) hw LB).mono ?_;rintro v1 h1 ⟨O1,N1,s1⟩;obtain⟨a1,c1,rfl,_,g1⟩:=Part.ints O1;refine⟨_,_,_,rfl,?_⟩;refine zI hi (s.trans s1) (P.sub s1) N g1 (by omega) fun v2 h2 o2 n2 s2 _ _=>?_
 obtain⟨a2,c2,rfl,_,_⟩:=o2.ints;refine(wh (hi.sub s2) 0#32 _ _ xs hw.okB (gx.sub s2) hcx (by omega)).mono ?_;rintro _ h3 ⟨rfl,s3⟩;refine⟨_,rfl,?_⟩;have wc:IntKind.u64.wrap ((x8 0#32 xs).toNat:Int)=((jJ xs:Nat):Int):=At _ (by have:=DT (xs:=xs);unfold jJ at this;omega);rw[wc];simp only[ze,zd,zi];refine(qC hi (s2.trans s3) (o2.sub s3) n2 (jJ xs) 4 (by omega) (by rw[vR];omega)).mono ?_;rintro v4 h4 ⟨O4,N4,s4⟩;obtain⟨a4,c4,rfl,_,g4⟩:=Part.ints O4;refine⟨_,_,_,rfl,?_⟩;have wl:IntKind.u64.wrap (xs.length:Int)=((xs.length:Nat):Int):=At _;rw[wl];refine(qC hi s4 O4 N4 xs.length 4 (by omega) (by simp only[vR,qB];omega)).mono ?_;rintro v6 h6 ⟨O6,N6,s6⟩;obtain⟨a6,c6,rfl,_,g6⟩:=Part.ints O6;refine⟨_,_,_,rfl,?_⟩;refine⟨?_,N6,s6⟩;have e:G5 cur xs=cur++zC xs++le (jJ xs) 4++le xs.length 4:=by simp[G5,Q4]
 rw[e];exact O6
theorem zd9:∀n:Nat,n<32->(Go.bits .and .i64 (n:Int) 2 != 0)=decide ((n:Int)/2%2≠0):=by decide +kernel
theorem Q5(k:Int)(hk:k=2\/k=4\/k=8\/k=16)(h:0<=n/\n<=31):(Go.bits .and .i64 n k != 0)=decide (n/k%2=1):=by
 obtain⟨m,rfl⟩:=vZ h.1;have e:∀k:Int,(decide ((m:Int)/k%2≠0))=decide ((m:Int)/k%2=1):=fun k=>by
  generalize (m:Int)/k=q;rw[decide_eq_decide];omega
 rw[<-e];rcases hk with rfl | rfl | rfl | rfl
 ·exact zd9 m (by omega)
 ·exact zcf m (by omega)
 ·exact zcg m (by omega)
 ·exact Zp m (by omega)
theorem zci:le x 2=le (x%65536) 2:=by simp[le,mD];omega
theorem Xj(hi:qaC (yb oPP s0) h0)(s:qaB h0 h)(O:tB.O h0 (.slice a8 xs.length c8) xs)(hw:okC xs)(L:xs.length<=100000)(P:Part .u8 h (.slice a cur.length c) cur)(N:qaD h0 (.slice a cur.length c))(hl:cur.length<=1500000)(hc:okC cur)(n0:Int)(h0f:0<=n0/\n0<=31)(K0:Kt)
  (e1 e2 e3 e4 e5 e6 e7 e9 e10 e11 e12 e13 e14 e15:Value) :
  gi4.wp oPP (yb oPP s0) yk (PG h0 (G4 n0 cur xs)) [.int .i64 n0,e1,e2,e3,e4,e5,e6,e7,.slice a8 xs.length c8,e9,e10,e11,e12,e13,e14,e15,.slice a cur.length c] h [K0]:=by
 simp only[gi4,Tr.wp,z8,Ex.ev,coerce,toInt_int,za,zd,zi,ze,zB,arith,Cst.val,SV.den,zq,zK,zz,zm,zl,zw,vF,vG,vA,vB,vC,vT,vO,vU,vD,vE,vJ,vI,vK,vY,vL,Q5 2 (.inl rfl) h0f];refine⟨fun hy=>?_,fun hn=>?_⟩
 ·have e:G4 n0 cur xs=G5 (cur++le (jJ cur) 2) xs:=by unfold G4 OD;rw[vP (by simpa using hy),<-zci]
  rw[e];obtain⟨_,_,ei,hcc,gc⟩:=P.ints;cases ei
  refine(wh (hi.sub s) 0#32 _ _ cur hc.okB gc hcc (by omega)).mono ?_;rintro _ h3 ⟨rfl,s3⟩;refine⟨_,rfl,?_⟩;have wc:IntKind.u64.wrap ((x8 0#32 cur).toNat:Int)=((jJ cur:Nat):Int):=At _ (by have:=DT (xs:=cur);unfold jJ at this;omega);rw[wc];refine(qC hi (s.trans s3) (P.sub s3) N (jJ cur) 2).mono ?_;rintro v4 h4 ⟨O4,N4,s4⟩;obtain⟨a4,c4,rfl,_,g4⟩:=Part.ints O4;refine⟨_,_,_,rfl,?_⟩;exact fun _=>Xi hi s4 O hw L O4 N4 (by rw[vR,qB];omega) K0 _ _ _ _ _ _ _ _ _ _ _ _ _ _ _ _
 ·have e:G4 n0 cur xs=G5 cur xs:=by unfold G4 OD;rw[vM (by simpa using hn),vK]
  rw[e];exact fun _=>Xi hi s O hw L P N (by omega) K0 _ _ _ _ _ _ _ _ _ _ _ _ _ _ _ _
theorem Xk(hi:qaC (yb oPP s0) h0)(s:qaB h0 h)(O:tB.O h0 (.slice a8 xs.length c8) xs)(hw:okC xs)(L:xs.length<=100000)(gz:zk h0 .u8 a6 zs)(lz:zs.length<=100000)(hz:okC zs)(P:Part .u8 h (.slice a cur.length c) cur)(N:qaD h0 (.slice a cur.length c))(hl:cur.length<=1000000)(hc:okC cur)(n0:Int)(h0f:0<=n0/\n0<=31)(K0:Kt)
  (e1 e2 e3 e4 e5 e7 e9 e10 e11 e12 e13 e14:Value) :
  gi3.wp oPP (yb oPP s0) yk (PG h0 (G3 n0 zs cur xs)) [.int .i64 n0,e1,e2,e3,e4,e5,.slice a6 zs.length c6,e7,.slice a8 xs.length c8,e9,e10,e11,e12,e13,e14,.slice a cur.length c] h [K0]:=by
 simp only[gi3,Tr.wp,Ex.ev,coerce,toInt_int,za,zd,zi,ze,zB,arith,Cst.val,vA,vB,vC,vT,vO,vU,vD,vE,vJ,vI,Q5 16 (.inr (.inr (.inr rfl))) h0f];refine⟨fun hy=>?_,fun hn=>?_⟩
 ·have e:G3 n0 zs cur xs=G4 n0 (cur++(zs++[0])) xs:=by unfold G3 Dw;rw[vP (by simpa using hy)]
  rw[e];refine zI hi s P N (gz.sub s) (by omega) fun v5 h5 o5 n5 s5 _ _=>?_
  intro b hb;have s6:qaB h5 (upd h5 b (.cells #[.int .u8 0] 5)):=Sub.zx hb;obtain⟨a5,c5,rfl,_,_⟩:=o5.ints;simp only[ze,zd,zi];refine zI (ys:=[0]) hi (s5.trans s6) (o5.sub s6) n5 (zk.new (xs:=[0])) (by simp only[vR,uD];omega) fun v7 h7 o7 n7 s7 _ _=>?_
  rw[vX]at o7;obtain⟨a7,c7,rfl,_,_⟩:=o7.ints;exact fun _=>Xj hi s7 O hw L o7 n7 (by simp only[vR,uD];omega) (hc.app (hz.app fun y hy=>by simp at hy;omega)) n0 h0f K0 _ _ _ _ _ _ _ _ _ _ _ _ _ _
 ·have e:G3 n0 zs cur xs=G4 n0 cur xs:=by unfold G3 Dw;rw[vM (by simpa using hn),vK]
  rw[e];exact fun _=>Xj hi s O hw L P N (by omega) hc n0 h0f K0 _ _ _ _ _ _ _ _ _ _ _ _ _ _
theorem Xl(hi:qaC (yb oPP s0) h0)(s:qaB h0 h){c c8 c6 c5:Nat}(O:tB.O h0 (.slice a8 xs.length c8) xs)(hw:okC xs)(L:xs.length<=100000)(gy:zk h0 .u8 a5 ys)(ly:ys.length<=100000)(hy:okC ys)(gz:zk h0 .u8 a6 zs)(lz:zs.length<=100000)(hz:okC zs)(P:Part .u8 h (.slice a cur.length c) cur)(N:qaD h0 (.slice a cur.length c))(hl:cur.length<=500000)(hc:okC cur)(n0:Int)(h0f:0<=n0/\n0<=31)(K0:Kt)
  (e1 e2 e3 e4 e7 e9 e10 e11 e12 e13:Value) :
  gi2.wp oPP (yb oPP s0) yk (PG h0 (G2 n0 ys zs cur xs)) [.int .i64 n0,e1,e2,e3,e4,.slice a5 ys.length c5,.slice a6 zs.length c6,e7,.slice a8 xs.length c8,e9,e10,e11,e12,e13,.slice a cur.length c] h [K0]:=by
 simp only[gi2,Tr.wp,Ex.ev,coerce,toInt_int,za,zd,zi,ze,zB,arith,Cst.val,vA,vB,vC,vT,vO,vU,vD,vE,vJ,vI,Q5 8 (.inr (.inr (.inl rfl))) h0f];refine⟨fun hyy=>?_,fun hn=>?_⟩
 ·have e:G2 n0 ys zs cur xs=G3 n0 zs (cur++(ys++[0])) xs:=by unfold G2 Dw;rw[vP (by simpa using hyy)]
  rw[e];refine zI hi s P N (gy.sub s) (by omega) fun v5 h5 o5 n5 s5 _ _=>?_
  intro b hb;have s6:qaB h5 (upd h5 b (.cells #[.int .u8 0] 5)):=Sub.zx hb;obtain⟨a5',c5',rfl,_,_⟩:=o5.ints;simp only[ze,zd,zi];refine zI (ys:=[0]) hi (s5.trans s6) (o5.sub s6) n5 (zk.new (xs:=[0])) (by simp only[vR,uD];omega) fun v7 h7 o7 n7 s7 _ _=>?_
  rw[vX]at o7;obtain⟨a7,c7,rfl,_,_⟩:=o7.ints;exact fun _=>Xk hi s7 O hw L gz lz hz o7 n7 (by simp only[vR,uD];omega) (hc.app (hy.app fun y hy=>by simp at hy;omega)) n0 h0f K0 _ _ _ _ _ _ _ _ _ _ _ _
 ·have e:G2 n0 ys zs cur xs=G3 n0 zs cur xs:=by unfold G2 Dw;rw[vM (by simpa using hn),vK]
  rw[e];exact fun _=>Xk hi s O hw L gz lz hz P N (by omega) hc n0 h0f K0 _ _ _ _ _ _ _ _ _ _ _ _
theorem zcj(hi:qaC (yb oPP s0) h0)(s:qaB h0 h){c c8 c6 c5 c4:Nat}(O:tB.O h0 (.slice a8 xs.length c8) xs)(hw:okC xs)(L:xs.length<=100000)(ge:zk h0 .u8 a4 es)(le':es.length<=65535)(he:okC es)(gy:zk h0 .u8 a5 ys)(ly:ys.length<=100000)(hy:okC ys)(gz:zk h0 .u8 a6 zs)(lz:zs.length<=100000)(hz:okC zs)(P:Part .u8 h (.slice a cur.length c) cur)(N:qaD h0 (.slice a cur.length c))(hl:cur.length<=1000)(hc:okC cur)(n0:Int)(h0f:0<=n0/\n0<=31)(K0:Kt)
  (e1 e2 e3 e7 e9 e10 e11 e12:Value) :
  gi1.wp oPP (yb oPP s0) yk (PG h0 (G1 n0 es ys zs cur xs)) [.int .i64 n0,e1,e2,e3,.slice a4 es.length c4,.slice a5 ys.length c5,.slice a6 zs.length c6,e7,.slice a8 xs.length c8,e9,e10,e11,e12,.slice a cur.length c] h [K0]:=by
 simp only[gi1,Tr.wp,z8,Ex.ev,coerce,toInt_int,za,zd,zi,ze,zB,arith,Cst.val,SV.den,zq,zK,zz,zm,zl,zw,vF,vG,vA,vB,vC,vT,vO,vU,vD,vE,vJ,vI,vK,vY,vL,Q5 4 (.inr (.inl rfl)) h0f];refine⟨fun hyy=>?_,fun hn=>?_⟩
 ·have e:G1 n0 es ys zs cur xs=G2 n0 ys zs (cur++le es.length 2++es) xs:=by unfold G1 OB;rw[vP (by simpa using hyy),<-vX]
  rw[e];rw[At es.length];refine(qC hi s P N es.length 2).mono ?_;rintro v5 h5 ⟨o5,n5,s5⟩;obtain⟨a5',c5',rfl,_,_⟩:=o5.ints;refine⟨_,_,_,rfl,?_⟩;refine zI hi s5 o5 n5 (ge.sub s5) (by simp only[vR,qB];omega) fun v7 h7 o7 n7 s7 _ _=>?_
  obtain⟨a7,c7,rfl,_,_⟩:=o7.ints;exact fun _=>Xl hi s7 O hw L gy ly hy gz lz hz o7 n7 (by simp only[vR,qB];omega) ((hc.app okC.le).app he) n0 h0f K0 _ _ _ _ _ _ _ _ _ _
 ·have e:G1 n0 es ys zs cur xs=G2 n0 ys zs cur xs:=by unfold G1 OB;rw[vM (by simpa using hn),vK]
  rw[e];exact fun _=>Xl hi s O hw L gy ly hy gz lz hz P N (by omega) hc n0 h0f K0 _ _ _ _ _ _ _ _ _ _
theorem Ki(hi:qaC (yb oPP s0) h){x:xD}(O:Bh.R h v x)(hwm:L4 x)(LM:Dc x)(O2:tB.O h u xs)(hw:okC xs)(L:jI xs) :
  zb oPP (yb oPP s0) Ay #[v,u] h (fun v h'=>tB.O h' v (yf x xs)/\tB.New h v/\qaB h h'):=by
 have OM:=O;obtain⟨u4,u5,u6,rfl,H4,H5,H6⟩:=Fq O;obtain⟨a4,c4,rfl,hx4⟩:=H4;obtain⟨a5,c5,rfl,hx5⟩:=H5;obtain⟨a6,c6,rfl,hx6⟩:=H6;obtain⟨n0,n1,n2,n3,es,ys,zs,n7,⟨⟩⟩:=x;have l4:es.length<=1048576:=LM.1;have l5:ys.length<=1048576:=LM.2.1;have l6:zs.length<=1048576:=LM.2.2;simp only at hx4 hx5 hx6;obtain⟨a8,c8,rfl,hc8,hx8⟩:=Part.ints O2;refine Ic (vs:=[.int .i64 n0,.int .i64 n1,.int .i64 n2,.int .i64 n3,.slice a4 es.length c4,.slice a5 ys.length c5,.slice a6 zs.length c6,.int .i64 n7,.slice a8 xs.length c8]) ⟨rfl,rfl,rfl,rfl,rfl,rfl,rfl,rfl,rfl,trivial⟩ hi ?_;simp only[D4,Tr.wp,z8,Ex.ev,coerce,toInt_int,za,zd,zi,ze,j7,zB,Cst.val,SV.den,zq,zK,zz,zm,zl,zw,vF,vG,vA,vB,vD,vE,vJ,vI,vK,vY,vL];refine(Jp hi OM LM).mono ?_;rintro _ h1 ⟨rfl,s1⟩;refine⟨_,rfl,fun hbad b hb=>?_,fun hok b hb=>?_⟩
 ·have e:yf (n0,n1,n2,n3,es,ys,zs,n7,()) xs=[]:=vM fun hh=>by
   rw[pZ hh.1]at hbad;have h2:n7=(xs.length:Int):=hh.2;simp only[fW,pJ,fN,vL]at hbad
   first | exact hbad h2 | (simp at hbad;exact hbad h2)
  rw[e];exact⟨(Own.made (k:=.u8) (h:=h1) (b:=b) (T:=5) []).part,New.of (zU s1 hb),s1.trans (Sub.zx hb)⟩
 ·have hv:kA (n0,n1,n2,n3,es,ys,zs,n7,())/\n7=xs.length:=by
   by_cases hv:kA (n0,n1,n2,n3,es,ys,zs,n7,())
   ·rw[pZ hv]at hok;simp at hok;exact⟨hv,hok⟩
   ·rw[pR hv]at hok;simp at hok
  have e:yf (n0,n1,n2,n3,es,ys,zs,n7,()) xs=G1 n0 es ys zs (jc (n0,n1,n2,n3,es,ys,zs,n7,())) xs:=vP hv;rw[e];obtain⟨⟨f0,f1⟩,⟨t0,t1⟩,⟨x0,x1⟩,⟨o0,o1⟩,le',⟨m0,m1⟩,_,_,_,_,_,lsum⟩:=hv.1;have h7:=hv.2;simp only[mE,mN,mC]at le' lsum;simp only at f0 f1 t0 t1 x0 x1 o0 o1 m0 m1;obtain⟨tn,rfl⟩:=vZ t0;have w0:IntKind.u8.wrap n0=n0:=by rw[pG];omega
  have w2:IntKind.u8.wrap n2=n2:=by rw[pG];omega
  have w3:IntKind.u8.wrap n3=n3:=by rw[pG];omega
  rw[w0,w2,w3,At tn];have s0:qaB h1 (upd h1 b (.cells (ints .u8 [31,139,8,n0]) 5)):=Sub.zx hb;refine(qC (xs:=[31,139,8,n0]) hi (s1.trans s0) (Own.made (k:=.u8) (h:=h1) (b:=b) (T:=5) [31,139,8,n0]).part (New.of (zU s1 hb)) tn 4 (by omega) (by simp)).mono ?_;rintro v5 h5 ⟨o5,n5,s5⟩;obtain⟨a5',c5',rfl,_,_⟩:=o5.ints;refine⟨_,_,_,rfl,?_⟩;intro b2 hb2;have s6:qaB h5 (upd h5 b2 (.cells (ints .u8 [n2,n3]) 5)):=Sub.zx hb2;refine zI (ys:=[n2,n3]) hi (s5.trans s6) (o5.sub s6) n5 (zk.new (xs:=[n2,n3])) (by simp[qB]) fun v7 h7 o7 n7' s7 _ _=>?_
  obtain⟨a7,c7,rfl,_,_⟩:=o7.ints;have eh:[31,139,8,n0]++le tn 4++[n2,n3]=jc (n0,(tn:Int),n2,n3,es,ys,zs,n7,()):=by simp[jc]
  have lh:(jc (n0,(tn:Int),n2,n3,es,ys,zs,n7,())).length=10:=by simp[jc,qB]
  rw[eh]at o7 n7' ⊢;exact zcj hi s7 O2 hw (by omega) hx4 le' hwm.1 hx5 (by omega) hwm.2.1 hx6 (by omega) hwm.2.2 o7 n7' (by omega) (fun y hy=>by
   simp only[jc]at hy
   rcases pO.1 hy with hy | hy
   ·rcases pO.1 hy with hy | hy
    ·simp at hy;omega
    ·have:=okC.le y hy;omega
   ·simp at hy;omega) n0 ⟨f0,f1⟩ _ _ _ _ _ _ _ _ _
end
section
variable {x:xD}
theorem UW{r:Rd}:bd false r=r:=by unfold bd;rw[vM (by simp)]
theorem zcZ(H:AtY B q (jc x))(hv:kA x) :
  gFl B ⟨((8*q:Nat):Int),0⟩=x.1/\gMt B ⟨((8*q:Nat):Int),0⟩=(⟨((8*(q+8):Nat):Int),0⟩,x.2.1)/\gXf B ⟨((8*q:Nat):Int),0⟩=(⟨((8*(q+9):Nat):Int),0⟩,x.2.2.1)/\gOs B ⟨((8*q:Nat):Int),0⟩=(⟨((8*(q+10):Nat):Int),0⟩,x.2.2.2.1):=by
 obtain⟨⟨a1,a2⟩,⟨b1,b2⟩,⟨c1,c2⟩,⟨d1,d2⟩,_⟩:=hv;unfold jc at H;have H1:AtY B q [31,139,8,x.1]:=(H.left).left;have H2:AtY B (q+4) (le x.2.1.toNat 4):=(H.left).right;have H3:AtY B (q+8) [x.2.2.1,x.2.2.2.1]:=by
  have:=H.right;rw[vR,qB]at this;exact this
 have g1:gh1 B ⟨((8*q:Nat):Int),0⟩=⟨((8*(q+1):Nat):Int),0⟩:=by
  have:=tk_byte' (B:=B) (q:=q) (x:=31) (by simpa using H1 0 31 rfl) (by decide);unfold gh1;rw[this];exact UW
 have g2:gh2 B ⟨((8*q:Nat):Int),0⟩=⟨((8*(q+2):Nat):Int),0⟩:=by
  have:=tk_byte' (B:=B) (q:=q+1) (x:=139) (H1 1 139 rfl) (by decide);unfold gh2;rw[g1,this];exact UW
 have g3:gh3 B ⟨((8*q:Nat):Int),0⟩=⟨((8*(q+3):Nat):Int),0⟩:=by
  have:=tk_byte' (B:=B) (q:=q+2) (x:=8) (H1 2 8 rfl) (by decide);unfold gh3;rw[g2,this];exact UW
 have t4:=tk_byte' (B:=B) (q:=q+3) (x:=x.1) (H1 3 x.1 rfl) (by omega);have e1:gFl B ⟨((8*q:Nat):Int),0⟩=x.1:=by unfold gFl;rw[g3,t4]
 have g4:gh4 B ⟨((8*q:Nat):Int),0⟩=⟨((8*(q+4):Nat):Int),0⟩:=by
  unfold gh4;rw[e1,g3,t4,pR (by omega)];exact UW
 have e2:gMt B ⟨((8*q:Nat):Int),0⟩=(⟨((8*(q+8):Nat):Int),0⟩,x.2.1):=by
  unfold gMt;rw[g4,Xc (by omega) H2];congr 1;omega
 have e3:gXf B ⟨((8*q:Nat):Int),0⟩=(⟨((8*(q+9):Nat):Int),0⟩,x.2.2.1):=by
  unfold gXf;rw[e2];exact tk_byte' (by simpa using H3 0 _ rfl) (by omega)
 exact⟨e1,e2,e3,by unfold gOs;rw[e3];exact tk_byte' (B:=B) (q:=q+9) (H3 1 _ rfl) (by omega)⟩
theorem Jq:(jc x).length=10:=by unfold jc;simp[qB]
end
end
end Go.Proofs.YtpodkihpnjhamaaGreatDoor
section
namespace Go.Eng
open Go
def qg(sz:Nat)(h:Heap)(v:Value)(n:Nat)(vs:List Value):Prop:=
 vs.length=n*sz/\((v=.slice none 0 0/\n=0)\/∃b sp T m,v=.slice (some ⟨b,0,none⟩) n (n+m)/\sp.length=m*sz/\h b=some (.cells (vs++sp).toArray T))
section
variable {h h0 h' : Heap}{v:Value}{vs us:List Value}{sz n:Nat}
theorem qg.nil:qg sz h (.slice none 0 0) 0 []:=⟨by simp,.inl ⟨rfl,rfl⟩⟩
theorem qg.keep(H:qg sz h v n vs)(hk:∀b,zf v=some b->h' b=h b):qg sz h' v n vs:=by
 obtain⟨hl,⟨rfl,rfl⟩ | ⟨b,sp,T,m,rfl,hs,hb⟩⟩:=H
 ·exact⟨hl,.inl ⟨rfl,rfl⟩⟩
 ·exact⟨hl,.inr ⟨b,sp,T,m,rfl,hs,by rw[hk b rfl];exact hb⟩⟩
theorem qg.held(H:qg sz h v n vs):∀b,zf v=some b->h b≠none:=by
 obtain⟨hl,⟨rfl,rfl⟩ | ⟨b,sp,T,m,rfl,hs,hb⟩⟩:=H
 ·intro b hb;cases hb
 ·intro b' hb';cases hb';rw[hb];simp
theorem qg.form(H:qg sz h v n vs):∃a c,v=.slice a n c:=by
 obtain⟨hl,⟨rfl,rfl⟩ | ⟨b,sp,T,m,rfl,hs,hb⟩⟩:=H
 ·exact⟨_,_,rfl⟩
 ·exact⟨_,_,rfl⟩
theorem qg.cell{a:Option Addr}{l c:Nat}(H:qg sz h (.slice a l c) n vs){i:Nat}{x:Value}(hx:vs[i]? = some x):zg h ((a.getD default).add i)=some x/\a.isSome=true/\l=n:=by
 obtain⟨hl,⟨e,rfl⟩ | ⟨b,sp,T,m,e,hs,hb⟩⟩:=H
 ·have:=(vS.1 hx).1;simp at hl;rw[hl]at this;simp at this
 ·cases e
  refine⟨?_,rfl,rfl⟩;rw[pE,y9];simp only[zg,hb,pD];rw[uC (vS.1 hx).1];exact hx
theorem Qd(z:List Value)(k:Nat):(Builtin.zeroCells z.toArray k).toList.length=k*z.length:=by
 simp[Builtin.zeroCells]
theorem Pz{S:Shared}{ty:TypeId}{byt c bu:Nat}{z:List Value}{K:Value->Heap->Prop}(hi:Inv S h0)(hsub:Sub h0 h)(hs:qg sz h v n vs)(hn:New h0 v)(hx:∀(j:Nat) x,us[j]? = some x->zg h ((⟨bu,0,none⟩:Addr).add j)=some x)(hu:us.length=sz)(h1:∀x∈us,DH x)(hz:z.length=sz)
  (hl:(n+1)*byt<=140737488355328)
  (hK:∀v' h',qg sz h' v' (n+1) (vs++us)->New h0 v'->Sub h0 h'->(∀b,h b≠none->zf v≠some b->h' b=h b)->(zf v'=zf v\/New h v')->K v' h') :
  appW S ty sz byt z v (.slice (some ⟨bu,0,none⟩) 1 c) h K:=by
 obtain⟨hvl,hs⟩:=hs;have hlen:(vs++us).length=(n+1)*sz:=by rw[vR,hvl,hu,Nat.add_mul,Nat.one_mul]
 have grown:∀nc d,n+1<=nc->h d=none->K (.slice (some ⟨d,0,none⟩) (n+1) nc) (upd h d (.cells (vs.toArray++us.toArray++Builtin.zeroCells z.toArray (nc-(n+1))) ty)):=by
  intro nc d hnc hd;have hd0:h0 d=none:=by
   cases hh:h0 d with
   | none=>rfl
   | some o=>rw[hsub d o hh]at hd;cases hd
  have e1:(vs.toArray++us.toArray++Builtin.zeroCells z.toArray (nc-(n+1)))=((vs++us)++(Builtin.zeroCells z.toArray (nc-(n+1))).toList).toArray:=by simp
  rw[e1];refine hK _ _ ⟨hlen,.inr ⟨d,(Builtin.zeroCells z.toArray (nc-(n+1))).toList,ty,nc-(n+1),?_,?_,by simp[upd]⟩⟩ (New.of hd0) ?_ (fun x hx hne=>?_) (.inr (New.of hd))
  ·congr 1;omega
  ·rw[Qd,hz]
  ·intro x o hx;have:x≠d:=fun e=>by rw[e,hd0]at hx;cases hx
   rw[upd_ne this];exact hsub x o hx
  ·have:x≠d:=fun e=>hx (e▸hd)
   exact upd_ne this
 refine⟨us,by rw[slL,Nat.one_mul,hu],Ct _ 0 fun j x hj=>by rw[uE];exact hx j x hj,h1,?_⟩;obtain⟨rfl,rfl⟩ | ⟨b,sp,T,m,rfl,hsp,hb⟩:=hs
 ·have e:vs=[]:=by simpa using hvl
  subst e;refine⟨fun hroom=>by simp only[slL,slC]at hroom;omega,fun hgrow=>⟨?_,[],by simp[slL],rfl,fun nc d hnc hd=>?_⟩⟩
  ·simp only[slL,slC]at hgrow ⊢;exact fM (by omega) hl
  ·simp only[slL]at hnc ⊢;exact grown nc d hnc hd
 ·have hb0:h0 b=none:=hn b rfl;have hsb:¬S b:=fun hs=>hi b hs hb0
  refine⟨fun hroom=>?_,fun hgrow=>?_⟩
  ·simp only[slA,slL,slC]at hroom ⊢;have e0:(⟨b,0,none⟩:Addr).add (n*sz)=⟨b,vs.length,none⟩:=by rw[<-hvl,y9]
   rw[e0];have hm:1<=m:=by omega
   have hsl:us.length<=sp.length:=by rw[hu,hsp];exact Nat.le_mul_of_pos_left _ hm
   refine Fy hsb us 0 h (vs++sp) hb (by rw[vR];omega) ?_;have e1:qw (vs++sp) (vs.length+0) us=(vs++us)++sp.drop us.length:=by
    simp[qw,List.drop_append,vX]
   rw[e1];refine hK _ _ ⟨hlen,.inr ⟨b,sp.drop us.length,T,m-1,?_,?_,upd_same⟩⟩ (New.of hb0) ?_ (fun x hx hne=>upd_ne fun e=>hne (by rw[e];rfl)) (.inl rfl)
   ·congr 1;omega
   ·rw[pM,hu,hsp,Nat.sub_mul,Nat.one_mul]
   ·intro x o hx;rw[upd_ne (fun e=>by rw[e,hb0]at hx;cases hx)];exact hsub x o hx
  ·simp only[slA,slL,slC]at hgrow ⊢;refine⟨fM (by omega) hl,vs,hvl,Ct _ 0 fun j x hj=>?_,fun nc d hnc hd=>grown nc d hnc hd⟩;rw[y9,uE];simp only[zg,hb,pD];rw[uC (vS.1 hj).1];exact hj
end
end Go.Eng
end
namespace Go.Proofs.YtpodkihpnjhamaaGreatDoor
open Go Go.Eng Go.IntWalk
section
variable {x:Int}{bs ds:List Int}{h h1:qaA}{bm c:Nat}{a:Option Addr}{T:TypeId}
section
variable {s:Nat -> Prop}
theorem zda(hx:0<=x/\x<65536):(Go.bits .and .u32 x 32==0)=decide (x/32%2≠1):=by
 obtain⟨n,rfl⟩:=vZ hx.1;have h1:(BitVec.ofInt 32 (n:Int)).toNat=n:=by rw[nH,nT];exact pV (by omega)
 have h2:(BitVec.ofInt 32 (32:Int)).toNat=32:=by decide
 have hb:n &&& 32=(n.testBit 5).toNat*32:=by
  apply Nat.eq_of_testBit_eq;intro i;rw[Nat.testBit_and,show(32:Nat)=2^5 from rfl,Nat.testBit_two_pow];by_cases hi:5=i
  ·subst hi;cases h:n.testBit 5 with
   | false=>simp[h]
   | true=>simp[h];decide
  ·cases h:n.testBit 5
   ·simp[hi]
   ·simp only[Bool.toNat_true,Nat.one_mul];rw[Nat.testBit_two_pow];simp[hi]
 have ht:n.testBit 5=decide (n/32%2=1):=by rw[Nat.testBit_eq_decide_div_mod_eq]
 have hand:Go.bits .and .u32 (n:Int) 32=(((n.testBit 5).toNat*32:Nat):Int):=by
  show IntKind.u32.wrap ((BitVec.ofInt 32 (n:Int) &&& BitVec.ofInt 32 (32:Int)).toNat:Int)=_;rw[gV,h1,h2,hb,pN];cases n.testBit 5 <;> simp
 rw[hand,ht];by_cases hc:n/32%2=1
 ·have:((n:Int)/32%2=1):=by omega
  simp[hc,this]
 ·have:¬((n:Int)/32%2=1):=by omega
  simp[hc,this]
theorem TO(h:(zR bs).k≠0):(zD bs ds).1=zR bs:=by
 have e:(zId bs).1=zR bs:=Gt h;unfold zD;split
 ·simp only;rw[e,Gs h]
 ·rfl
theorem zaL(hi:qaC (yb oPP s) h)(G:ErrZ h)(hx:zk h .u8 a bs)(L:bs.length<=65536)(hb:h bm=none)(sb:qaB h h1)
  (hm:h1 bm=some (zV a c bs ((0:Nat):Int) ⟨.pointer none,.slice none 0 0,100000,false,.pointer none,.pointer none⟩ T)){ad:Option Addr}{cd:Nat}(hd:zk h .u8 ad ds)(hcd:ds.length<=cd)(hdl:ds.length<=1048576)(hdb:okB ds) :
  zb oPP (yb oPP s) Ab #[.pointer (some ⟨bm,0,none⟩),.slice ad ds.length cd] h1 (PF h bm a c bs T (xH bs ds)):=by
 refine GP (vs:=[.pointer (some ⟨bm,0,none⟩),.slice ad ds.length cd]) ⟨rfl,rfl,trivial⟩ (hi.sub sb) ?_;simp only[CI,Tr.wp,z8,Ex.ev,coerce,toInt_int,za,zd,zi,ze,zj,zN,j7,zB,arith,Cst.val,SV.den,zq,zK,zz,zm,zl,zw,zr,vF,vG,vA,vB,vC,vT,vD,vE,vJ,vI,vK,uB,uF,uE,uI,uA,uJ,vY,vL,zp];have eAns:xH bs ds=zA bs (zS (zH bs).2) (zD bs ds).2 (zD bs ds).1:=vM (by omega);have hn:=MW (bs:=bs);refine zb.mono (UM hi G.el.es hx (by omega) 0 (by omega) 2 (by omega) ⟨hm,hb,sb⟩) ?_;rintro _ h2 ⟨p2,hp2,rfl,hr2,rfl⟩;have eH:hig bs 2 ⟨((0:Nat):Int),0⟩ 0=zH bs:=rfl;rw[eH]at hr2 ⊢;have ret:∀(hh:qaA) (p':Nat) (K:Int),p'<=8*bs.length->hh bm=some (zV a c bs p' ⟨.pointer none,.slice none 0 0,100000,false,.pointer none,.pointer none⟩ T)->qaB h hh->K≠0->(zD bs ds).1.k=K->PF h bm a c bs T (xH bs ds) (zG K) hh:=by
  intro hh p' K q1 q2 q3 q4 q5;refine⟨K,p',_,[],none,0,rfl,q2,rfl,Part.nil,fun z hz=>(by cases hz),q3,q1,fun _=>?_,fun h=>absurd h q4⟩;rw[eAns,zb3 (by rw[q5];exact q4),q5]
 have hm2:∀q:Nat,upd h1 bm (zV a c bs q ⟨.pointer none,.slice none 0 0,100000,false,.pointer none,.pointer none⟩ T) bm=some (zV a c bs q ⟨.pointer none,.slice none 0 0,100000,false,.pointer none,.pointer none⟩ T):=fun q=>upd_same
 have s2:∀q:Nat,qaB h (upd h1 bm (zV a c bs q ⟨.pointer none,.slice none 0 0,100000,false,.pointer none,.pointer none⟩ T)):=fun q=>yz sb hb
 refine⟨_,_,zc,by rw[zc],fun hz=>?_,fun hz=>?_⟩
 ·rw[zc,zy]at hz;have hk:(zH bs).1.k≠0:=by simpa using hz
  have eR:zR bs=(zH bs).1:=CZ hk;rw[zc];exact ret _ p2 _ hp2 (hm2 p2) (s2 p2) hk (by rw[TO (by rw[eR];exact hk),eR])
 ·rw[zc,zy]at hz;have hk:(zH bs).1.k=0:=by simpa using hz
  rw[vP hk];have e2:=hr2 hk;have ws:Int.fdiv (zH bs).2 (2^min (Int.toNat 8) IntKind.u32.bits)=(zH bs).2/256:=by rw[show(2:Int)^min (Int.toNat 8) IntKind.u32.bits=256 from rfl,pS _ (by omega)]
  have t31:(zH bs).2.tmod 31=(zH bs).2%31:=uG hn.1;have t16:((zH bs).2/256).tmod 16=(zH bs).2/256%16:=uG (by omega);have wq:IntKind.u32.wrap (((zH bs).2/256).tdiv 16)=(zH bs).2/4096:=by
   rw[uL (by omega),lZ (by omega),pN];show(zH bs).2/4096%4294967296=(zH bs).2/4096;clear t31 t16;omega
  have eW:(decide ((decide (((zH bs).2%31 != 0)=true)||(zH bs).2/256%16 != 8)=true)||decide ((zH bs).2/4096>7))=zW (zH bs).2:=by
   unfold zW;simp only[gA]
  rw[ws,t31,t16,wq];simp only[eW];refine⟨fun hw=>?_,fun hw=>?_⟩
  ·have eR:zR bs=⟨(zH bs).1.i,3⟩:=by unfold zR bd;rw[vP ⟨hk,hw⟩]
   refine⟨3,(G.sub (s2 p2)).el.es.e3,?_⟩;exact ret _ p2 3 hp2 (hm2 p2) (s2 p2) (by decide) (by rw[TO (by rw[eR];show(3:Int)≠0;decide),eR])
  ·have hw:zW (zH bs).2=false:=by simpa using hw
   have h7:(zH bs).2/4096<=7:=by
    unfold zW at hw;simp only[lG,vU]at hw;omega
   have eR:zR bs=⟨(p2:Int),0⟩:=by unfold zR bd;rw[vM (fun e=>by rw[hw]at e;cases e.2),e2]
   rw[zda hn];refine⟨fun hf=>?_,fun hf=>?_⟩
   ·have hf:¬(zH bs).2/32%2=1:=by simpa using hf
    have eD:zD bs ds=(⟨(p2:Int),0⟩,[]):=by unfold zD;rw[vM hf,eR]
    intro _;rw[eAns,eD];have K:=Zl (s:=s) (us:=[]) (au:=none) (cu:=0) hi G hx L p2 hp2 hb (s2 p2) (hm2 p2) hn.1 hn.2 h7 (fun i x hx=>by simp at hx) (uN _) (by simp) JJ;exact K _ _ _
   ·have hf:(zH bs).2/32%2=1:=by simpa using hf
    have eD2:(zD bs ds).2=ds:=by unfold zD;rw[vP hf]
    have eD1:(zD bs ds).1=bdK 5 (decide (ds.length=0)||(zX 1 ds != (zId bs).2)) (zId bs).1:=by unfold zD;rw[vP hf]
    refine zb.mono (UM hi G.el.es hx (by omega) p2 hp2 4 (by omega) ⟨hm2 p2,hb,s2 p2⟩) ?_;rintro _ h3 ⟨p3,hp3,rfl,hr3,rfl⟩;have eI:hig bs 4 ⟨(p2:Int),0⟩ 0=zId bs:=by unfold zId;rw[eR]
    rw[eI]at hr3 ⊢;rw[xe];refine⟨_,_,zc,by rw[zc],fun hz=>?_,fun hz=>?_⟩
    ·rw[zc,zy]at hz;have hkI:(zId bs).1.k≠0:=by simpa using hz
     rw[zc];exact ret _ p3 _ hp3 (hm2 p3) (s2 p3) hkI (by rw[eD1,Gs hkI])
    ·rw[zc,zy]at hz;have hkI:(zId bs).1.k=0:=by simpa using hz
     rw[vP hkI];have e3:=hr3 hkI;have bad:∀hh,hh bm=some (zV a c bs p3 ⟨.pointer none,.slice none 0 0,100000,false,.pointer none,.pointer none⟩ T)->qaB h hh->(decide (ds.length=0)||(zX 1 ds != (zId bs).2))=true->PF h bm a c bs T (xH bs ds) (zG 5) hh:=fun hh q2 q3 q4=>
      ret hh p3 5 hp3 q2 q3 (by decide) (by rw[eD1];unfold bdK;rw[vP ⟨hkI,q4⟩])
     refine⟨fun hl=>?_,fun hl=>?_⟩
     ·have hl:ds.length≠0:=by simpa using hl
      refine zb.mono (kU (hi.sub (s2 p3)) 1 ⟨by omega,by omega⟩ ad cd ds hdb (hd.sub (s2 p3)) hcd) ?_;rintro _ h4 ⟨rfl,s4⟩;refine⟨_,rfl,fun _=>⟨fun hne=>?_,fun heq=>?_⟩⟩
      ·have hne:zX 1 ds≠(zId bs).2:=by simpa using hne
       refine⟨5,(G.sub ((s2 p3).trans s4)).e5,?_⟩;exact bad h4 (s4 _ _ (hm2 p3)) ((s2 p3).trans s4) (by simp[hne])
      ·have heq:zX 1 ds=(zId bs).2:=by simpa using heq
       have eD:(zD bs ds).1=⟨(p3:Int),0⟩:=by
        rw[eD1];unfold bdK;rw[vM (fun e=>by have:=e.2;simp[heq]at this;exact hl (by simp[this])),e3]
       intro _;rw[eAns,eD,eD2];have K:=Zl (s:=s) (us:=ds) (au:=ad) (cu:=cd) hi G hx L p3 hp3 hb ((s2 p3).trans s4) (s4 _ _ (hm2 p3)) hn.1 hn.2 h7 (hd.sub ((s2 p3).trans s4)) hcd hdl hdb;exact K _ _ _
     ·have hl:ds.length=0:=by simpa using hl
      refine fun _=>⟨fun _=>?_,fun h=>by simp at h⟩
      refine⟨5,(G.sub (s2 p3)).e5,?_⟩;exact bad _ (hm2 p3) (s2 p3) (by simp[hl])
theorem g_impl_Zlib'(hi:qaC (yb oPP s) h)(G:ErrZ h)(E:Ds h){v u:Value}(O:tB.O h v bs)(L:jI bs)(O2:tB.O h u ds)(L2:jI ds)(hdb:okB ds) :
  zb oPP (yb oPP s) F1 #[v,u] h (PZ h (xH bs ds)):=by
 obtain⟨a,c,rfl,hc,hx⟩:=Part.ints O;obtain⟨a2,c2,rfl,hc2,hx2⟩:=Part.ints O2;have hL:bs.length<=1048576:=L;have hL2:ds.length<=1048576:=L2;refine PV (vs:=[.slice a bs.length c,.slice a2 ds.length c2]) ⟨rfl,rfl,trivial⟩ hi ?_;simp only[Ku,Tr.wp,z8,Ex.ev,coerce,toInt_int,za,zd,zi,ze,zj,zB,arith,Cst.val,SV.den,zq,zK,zz,zm,zl,yF,zw,zr,vF,vG,nJ,vA,vB,vO,vU,vD,vE,vJ,vI,vK,uE,uI,uA,vY,vL,zp];refine⟨fun hgt=>?_,fun hle=>?_⟩
 ·have e:xH bs ds=(7,[],0,()):=vP (by omega);rw[e];exact TG (fun _ _ e=>e)
 intro bm hbm;have K:=zaL (s:=s) (T:=59) hi G hx (by omega) hbm (Sub.zx (o:=zV a c bs ((0:Nat):Int) ⟨.pointer none,.slice none 0 0,100000,false,.pointer none,.pointer none⟩ 59) hbm) upd_same hx2 hc2 hL2 hdb;refine zb.mono K ?_;rintro _ h3 ⟨KK,p,m,xs,ao,co,rfl,hb3,eo,P3,N3,s3,hp,hbad,hgood⟩;obtain⟨_,g1,_,g3,_⟩:=yy hb3;rw[eo]at g3;refine⟨_,zc,by rw[zc],fun hz=>?_,fun hz=>?_⟩
 ·rw[zc,zy]at hz;have hk1:KK≠0:=by simpa using hz
  rw[hbad hk1,zc,Tl hk1];refine⟨_,_,_,g3,?_⟩;refine zb.mono (Pb (hi.sub s3) (E.sub s3)) ?_;rintro _ h4 ⟨rfl,s4⟩;refine⟨_,rfl,fun pp hpp=>?_,Qr (P3.sub s4) N3 (s3.trans s4)⟩;obtain rfl:=uO.1 hpp;simp only[Ex.ev,coerce,zd,zi,ze,zj,vA,vB,uE,uI,zp,zj];exact xJ s4 g3
 ·rw[zc,zy]at hz;have hk1:KK=0:=by simpa using hz
  rw[hgood hk1];refine⟨_,_,_,g3,_,g1,?_⟩;have w:IntKind.i64.wrap ((p:Int).tdiv 8)=((p/8:Nat):Int):=by rw[uL (by omega),i64_in _ (by omega)];omega
  rw[w];exact Qr P3 N3 s3
end
variable {u:Value×Value×Value}{v:Value}{F dl n room sz told y:Nat}{r:Rd}{K:Int}{w:Bool}{xs:List Int}{h' h0:qaA}
section
section
variable {s:Nat -> Prop}{N N' : Nat -> Prop}
def el8(m:GM)(u:Value×Value×Value):List Value:=[.int .i64 m.1,.int .i64 m.2.1,.int .i64 m.2.2.1,.int .i64 m.2.2.2.1,u.1,u.2.1,u.2.2,.int .i64 m.2.2.2.2.2.2.2]
def BQ:List GM->List (Value×Value×Value)->List Value
 | m::ms,u::us=>el8 m u++BQ ms us
 | _,_=>[]
def OG1(h:qaA)(N:Nat->Prop)(m:GM)(u:Value×Value×Value):Prop:=
 Part .u8 h u.1 m.2.2.2.2.1/\Part .u8 h u.2.1 m.2.2.2.2.2.1/\Part .u8 h u.2.2 m.2.2.2.2.2.2.1/\∀y,(zf u.1=some y\/zf u.2.1=some y\/zf u.2.2=some y)->N y
def OGs(h:qaA)(N:Nat->Prop):List GM->List (Value×Value×Value)->Prop
 | [],[]=>True
 | m::ms,u::us=>OG1 h N m u/\OGs h N ms us
 | _,_=>False
theorem OG1.keep{m:GM}(H:OG1 h N m u)(f:∀y,h y≠none->N y->h' y=h y/\N' y):OG1 h' N' m u:=by
 obtain⟨P1,P2,P3,n⟩:=H;exact⟨P1.keep fun y hy=>(f y (P1.held y hy) (n y (.inl hy))).1,P2.keep fun y hy=>(f y (P2.held y hy) (n y (.inr (.inl hy)))).1,P3.keep fun y hy=>(f y (P3.held y hy) (n y (.inr (.inr hy)))).1,
  fun y hy=>by
   have hh:h y≠none:=by rcases hy with e | e | e;exact P1.held y e;exact P2.held y e;exact P3.held y e
   exact(f y hh (n y hy)).2⟩
theorem OGs.keep(f:∀y,h y≠none->N y->h' y=h y/\N' y):∀ {ms:List GM} {us:List (Value×Value×Value)},OGs h N ms us->OGs h' N' ms us
 | [],[],_=>trivial
 | m::ms,u::us,H=>⟨H.1.keep f,OGs.keep f H.2⟩
 | [],_::_,H=>H.elim
 | _::_,[],H=>H.elim
theorem OGs.app{m:GM}(H1:OG1 h N m u):∀ {ms:List GM} {us:List (Value×Value×Value)},OGs h N ms us->OGs h N (ms++[m]) (us++[u])
 | [],[],_=>⟨H1,trivial⟩
 | _::_,_::_,H=>⟨H.1,OGs.app H1 H.2⟩
 | [],_::_,H=>H.elim
 | _::_,[],H=>H.elim
theorem Ho{m:GM}:∀ {ms:List GM} {us:List (Value×Value×Value)},OGs h N ms us->BQ (ms++[m]) (us++[u])=BQ ms us++el8 m u
 | [],[],_=>by simp[BQ]
 | _::_,_::_,H=>by simp only[vJ,BQ];rw[Ho H.2,vX]
 | [],_::_,H=>H.elim
 | _::_,[],H=>H.elim
def kF(bs:List Int):Int×List Int×List GM×Int:=if bs.length>65536 then(7,[],[],0)else if(qf bs).1.k≠0 then((qf bs).1.k,(qf bs).2.1,(qf bs).2.2,0)else(1,(qf bs).2.1,(qf bs).2.2,(bs.length:Int))
def PGz(h:qaA)(X:Int×List Int×List GM×Int)(v:Value)(h':qaA):Prop:=
 ∃(a:Option Addr) (c:Nat) (vm:Value) (us:List (Value×Value×Value)),v=.agg #[.int .i64 X.1,.slice a X.2.1.length c,vm,.int .i64 X.2.2.2]/\Part .u8 h' (.slice a X.2.1.length c) X.2.1/\qaD h (.slice a X.2.1.length c) /\
  qg 8 h' vm X.2.2.1.length (BQ X.2.2.1 us)/\qaD h vm/\OGs h' (fun y=>h y=none) X.2.2.1 us/\qaB h h'
def L5(v:Value):List Nat:=(zf v).toList
theorem AW:y∈L5 v<->zf v=some y:=by unfold L5;simp[eq_comm]
def Jr(u:Value×Value×Value):List Nat:=L5 u.1++(L5 u.2.1++L5 u.2.2)
def FK(us:List (Value×Value×Value)):List Nat:=us.flatMap Jr
theorem Sk:y∈Jr u<->zf u.1=some y\/zf u.2.1=some y\/zf u.2.2=some y:=by unfold Jr;simp only[pO,AW]
theorem Hp:(L5 v).Nodup:=by unfold L5;cases zf v <;> simp
theorem UX(D:D3 u.1 u.2.1 u.2.2):(Jr u).Nodup:=by
 unfold Jr;refine fK.2 ⟨Hp,fK.2 ⟨Hp,Hp,fun x hx y hy e=>?_⟩,fun x hx y hy e=>?_⟩
 ·subst e;exact D.2.2 x (AW.1 hx) (AW.1 hy)
 ·subst e;rcases pO.1 hy with hy | hy
  ·exact D.1 x (AW.1 hx) (AW.1 hy)
  ·exact D.2.1 x (AW.1 hx) (AW.1 hy)
theorem OGs.mem:∀ {ms:List GM} {us:List (Value×Value×Value)},OGs h N ms us->∀y∈FK us,h y≠none/\N y
 | [],[],_,y,hy=>by cases hy
 | m::ms,u::us,H,y,hy=>by
  have hy:y∈Jr u++FK us:=hy;rcases pO.1 hy with hy | hy
  ·have g:=Sk.1 hy;refine⟨?_,H.1.2.2.2 y g⟩;rcases g with g | g | g
   ·exact H.1.1.held y g
   ·exact H.1.2.1.held y g
   ·exact H.1.2.2.1.held y g
  ·exact OGs.mem H.2 y hy
 | [],_::_,H,_,_=>H.elim
 | _::_,[],H,_,_=>H.elim
theorem UY{us:List (Value×Value×Value)}(H:(FK us).Nodup)(D:D3 u.1 u.2.1 u.2.2)(far:∀y∈Jr u,y∉FK us):(FK (us++[u])).Nodup:=by
 have e:FK (us++[u])=FK us++Jr u:=by simp[FK]
 rw[e];exact fK.2 ⟨H,UX D,fun x hx y hy e=>by subst e;exact far x hy hx⟩
def PGd(h:qaA)(X:Int×List Int×List GM×Int)(v:Value)(h':qaA):Prop:=
 ∃(a:Option Addr) (c:Nat) (vm:Value) (us:List (Value×Value×Value)),v=.agg #[.int .i64 X.1,.slice a X.2.1.length c,vm,.int .i64 X.2.2.2]/\Part .u8 h' (.slice a X.2.1.length c) X.2.1/\qaD h (.slice a X.2.1.length c) /\
  qg 8 h' vm X.2.2.1.length (BQ X.2.2.1 us)/\qaD h vm/\OGs h' (fun y=>h y=none/\zf (.slice a X.2.1.length c)≠some y/\zf vm≠some y) X.2.2.1 us/\(∀y,zf vm=some y->zf (.slice a X.2.1.length c)≠some y)/\(FK us).Nodup/\qaB h h'
theorem PGd.gz{X:Int×List Int×List GM×Int}(H:PGd h X v h'):PGz h X v h':=by
 obtain⟨a,c,vm,us,e,h1,h2,h3,h4,h5,_,_,h8⟩:=H;exact⟨a,c,vm,us,e,h1,h2,h3,h4,h5.keep fun y _ g=>⟨rfl,g.1⟩,h8⟩
def posOf(h:qaA)(bm:Nat):Nat:=match zg h ⟨bm,1,none⟩with
 | some (.int _ x)=>x.toNat
 | _=>0
theorem zck(h:(tk bs n r).1.k=0):r.k=0/\(tk bs n r).1.i=r.i+n:=⟨BI h,CX h⟩
theorem Sl(hK:K≠0):le2 r (bdK K w r):=fun h=>by
 unfold bdK at h ⊢;split at h
 ·exact absurd h hK
 ·rename_i g;rw[vM g];exact⟨h,by omega⟩
theorem Xm:le2 r (bk3 bs r):=fun h=>⟨(MK h).1,by have:=(MK h).2;omega⟩
theorem TP:∀ {f:Nat} {r:Rd} {al:List Int},le2 r (blF bs dl room sz F f r al).1
 | 0,r,al=>fun h=>⟨h,by unfold blF;simp⟩
 | f+1,r,al=>by
  unfold blF;split
  ·split
   ·exact(Xm).trans Rv
   ·exact(Xm.trans Rv).trans TP
  ·exact fun h=>⟨h,by simp⟩
theorem Xn(h:(gC2 bs told r).k=0):r.k=0/\r.i+8<=(gC2 bs told r).i:=by
 have a1:le2 (tk bs 8 r).1 (gh1 bs r):=xP;have a2:le2 (gh1 bs r) (gh2 bs r):=y7.trans xP;have a3:le2 (gh2 bs r) (gh3 bs r):=y7.trans xP;have a4:le2 (gh3 bs r) (gh4 bs r):=y7.trans xP;have a5:le2 (gh4 bs r) (gOs bs r).1:=(y7.trans y7).trans y7;have a6:le2 (gOs bs r).1 (gCo bs r).1:=by
  have e1:le2 (gOs bs r).1 (gEx bs r).1:=by unfold gEx;split;exact y7.trans Nr;exact fun h=>⟨h,by simp⟩
  have e2:le2 (gEx bs r).1 (gNa bs r).1:=by unfold gNa;split;exact G7;exact fun h=>⟨h,by simp⟩
  have e3:le2 (gNa bs r).1 (gCo bs r).1:=by unfold gCo;split;exact G7;exact fun h=>⟨h,by simp⟩
  exact(e1.trans e2).trans e3
 have a7:le2 (gCo bs r).1 (gHd bs r):=by
  unfold gHd;split
  ·exact y7.trans (Sl (by decide))
  ·exact fun h=>⟨h,by simp⟩
 have a8:le2 (gHd bs r) (gSt bs told r).1:=TP;have a9:le2 (gSt bs told r).1 (gC1 bs told r):=(Rr.trans y7).trans (Sl (by decide));have a10:le2 (gC1 bs told r) (gC2 bs told r):=y7.trans (Sl (by decide));obtain⟨b1,b2⟩:=((((((((a1.trans a2).trans a3).trans a4).trans a5).trans a6).trans a7).trans a8).trans a9).trans a10 h;obtain⟨c1,c2⟩:=zck b1;exact⟨c1,by omega⟩
theorem G8{f:Nat}{ms:List GM}(h:¬(r.k=0/\(r.i<8*(bs.length:Int)\/ms=[]))):gZ bs f r xs ms=(r,xs,ms):=by
 cases f with
 | zero=>rfl
 | succ f=>unfold gZ;rw[vM h]
theorem share{A P B:Prop}(main:(A->P)->B)(body:A->P):B:=main body
theorem Sm(hi:qaC (yb oPP s) h)(G:ErrS h)(E:Ds h)(O:tB.O h v bs)(hb:okB bs)(L:jI bs) :
  zb oPP (yb oPP s) Cu #[v] h (PGd h (kF bs)):=by
 obtain⟨a,c,rfl,hc,hx⟩:=Part.ints O;have hL:bs.length<=1048576:=L;refine PY (vs:=[.slice a bs.length c]) ⟨rfl,trivial⟩ hi ?_;simp only[Kx,Tr.wp,z8,Ex.ev,coerce,toInt_int,za,zd,zi,ze,zj,zB,arith,Cst.val,SV.den,zq,zK,zz,zm,zl,yF,zw,zY,zr,vF,vG,nJ,vA,vB,vC,vT,vO,vU,vD,vE,vJ,vI,vK,uB,uF,uE,uI,uA,uJ,vY,vL,zp];refine⟨fun hgt=>?_,fun hle=>?_⟩
 ·have e:kF bs=(7,[],[],0):=vP (by omega);rw[e];exact⟨none,0,.slice none 0 0,[],rfl,Part.nil,fun y hy=>(by cases hy),qg.nil,fun y hy=>(by cases hy),trivial,fun y hy=>(by cases hy),mT,fun _ _ e=>e⟩
 intro bm hbm;have eM:(Obj.cells (Value.slice a bs.length c::Value.int .i64 0::Value.pointer none::Value.slice none 0 0::Value.int .i64 100000::Value.bool false::List.replicate 2 (Value.pointer none)).toArray 59)=zV a c bs ((0:Nat):Int) ⟨.pointer none,.slice none 0 0,100000,false,.pointer none,.pointer none⟩ 59:=rfl;rw[eM];have M0:MO h (upd h bm (zV a c bs ((0:Nat):Int) ⟨.pointer none,.slice none 0 0,100000,false,.pointer none,.pointer none⟩ 59)) bm a c bs 59 ⟨0,0⟩ [] none 0:=
  ⟨⟨0,_,_,_,_,by omega,fun _=>rfl,upd_same⟩,Part.nil,fun y hy=>(by cases hy),Sub.zx hbm,by simp⟩
 generalize upd h bm (zV a c bs ((0:Nat):Int) ⟨.pointer none,.slice none 0 0,100000,false,.pointer none,.pointer none⟩ 59)=h1 at M0 ⊢;refine⟨fun us h'=>∃(f:Nat) (r:Rd) (xs:List Int) (ms:List GM) (ao:Option Addr) (co:Nat) (vm:Value) (usl:List (Value×Value×Value)),us=[.bool (decide (ms=[])),vm]/\8*(bs.length:Int)+16<=r.i+8*f/\8*(ms.length:Int)<=r.i/\r.k=0/\0<=r.i/\r.i<=8*(bs.length:Int)/\MO h h' bm a c bs 59 r xs ao co /\
   qg 8 h' vm ms.length (BQ ms usl)/\qaD h vm/\(∀y,zf vm=some y->y≠bm/\zf (.slice ao xs.length co)≠some y)/\OGs h' (fun y=>h y=none/\y≠bm/\zf (.slice ao xs.length co)≠some y/\zf vm≠some y) ms usl/\gZ bs f r xs ms=qf bs/\(FK usl).Nodup,
  fun us h'=>8*bs.length-posOf h' bm,⟨bs.length+2,⟨0,0⟩,[],[],none,0,.slice none 0 0,[],rfl,by simp only;omega,by simp,rfl,by simp,by simp only;omega,M0,qg.nil,fun y hy=>(by cases hy),fun y hy=>(by cases hy),trivial,rfl,mT⟩,?_⟩
 rintro x a1 l1 c1 h' ⟨f,r,xs,ms,ao,co,vm,usl,hx1,hf,hml,hk,hr0,hr1,M,Ow,Nv,vN,OG,e,nd⟩;simp only[uQ,Value.bool.injEq,uA]at hx1;obtain⟨rfl,rfl⟩:=hx1;obtain⟨p,w,last,l,d,hp,hrp,hm⟩:=id M.mt;have er:=hrp hk;have wp:IntKind.i64.wrap ((p:Int).tdiv 8)=((p/8:Nat):Int):=by rw[uL (by omega),i64_in _ (by omega)];omega
 apply share (A:=r.i<8*(bs.length:Int)\/ms=[])
 ·intro body;refine⟨fun hx2=>?_,fun hx2=>?_⟩
  ·have hms:ms ≠ []:=by simpa using hx2
   refine⟨_,(yy hm).2.1,fun _=>?_⟩;rw[wp];refine⟨fun hlt=>?_,fun hge=>?_⟩
   ·simp only[uO,forall_eq,Ex.ev,coerce,zd,zi,ze,zj,vA,vB,uE,uI,zp,zj];exact body (.inl (by rw[er];show(p:Int)<_;omega))
   ·have hcd:¬(r.k=0/\(r.i<8*(bs.length:Int)\/ms=[])):=fun h=>by
     rcases h.2 with h | h
     ·rw[er]at h;simp only at h;omega
     ·exact hms h
    rw[G8 hcd]at e;have eA:kF bs=(1,xs,ms,(bs.length:Int)):=by unfold kF;rw[vM (by omega),<-e,vM (fun h=>h hk)]
    refine⟨_,_,_,(yy hm).2.2.2.1,?_⟩;rw[eA];exact⟨ao,co,_,usl,rfl,M.pt,fun y hy=>(M.nw y hy).1,Ow,Nv,OG.keep fun y _ g=>⟨rfl,g.1,g.2.2.1,g.2.2.2⟩,fun y hy=>(vN y hy).2,nd,M.sb⟩
  ·have hms:ms=[]:=by simpa using hx2
   refine fun _=>⟨fun _=>?_,fun h=>by cases h⟩
   simp only[uO,forall_eq,Ex.ev,coerce,zd,zi,ze,zj,vA,vB,uE,uI,zp,zj];exact body (.inr hms)
 ·intro hcd;obtain⟨f1,rfl⟩:∃f1,f=f1+1:=⟨f-1,by omega⟩;rw[gZ,vP ⟨hk,hcd⟩]at e;refine zb.mono (YP hi G hx (by omega) hc hb hbm M hk) ?_;rintro _ h2 ⟨fl,mt,xf,os,u4,u5,u6,sz,ao',co',rfl,M2,fr,oh,⟨a4,l4,c4,a5,l5,c5,a6,l6,c6,rfl,rfl,rfl⟩,Cm⟩;obtain⟨p2,w2,last2,l2,d2,hp2,hrp2,hm2⟩:=id M2.mt;have vk:∀y,zf (.slice a1 l1 c1)=some y->h' y≠none/\h2 y=h' y:=fun y hy=>⟨Ow.held y hy,fr y (Ow.held y hy) (vN y hy).1 (vN y hy).2⟩
  refine⟨_,_,_,_,_,_,_,_,_,_,_,_,_,_,zG (gC2 bs xs.length r).k,zc,by rw[zc],fun hz=>?_,fun hz=>?_⟩
  ·have hz:(gC2 bs xs.length r).k≠0:=by simpa[zy,zc]using hz
   rw[vM hz,G8 (fun h=>hz h.1)]at e;refine⟨_,_,_,(yy hm2).2.2.2.1,?_⟩;rw[zc,Tl hz];refine zb.mono (Pb (hi.sub M2.sb) (E.sub M2.sb)) ?_;rintro _ h4 ⟨rfl,s4⟩;have k4:∀y,h2 y≠none->h4 y=h2 y:=fun y hy=>by
    cases ho:h2 y with
    | none=>exact absurd ho hy
    | some o=>exact s4 y o ho
   have eA:kF bs=((gC2 bs xs.length r).k,xs++(gSt bs xs.length r).2,ms,0):=by unfold kF;rw[vM (by omega),<-e,vP hz]
   refine⟨_,rfl,?_,?_⟩
   ·exact xJ s4 (yy hm2).2.2.2.1
   ·rw[eA];refine⟨ao',co',_,usl,rfl,M2.pt.sub s4,fun y hy=>(M2.nw y hy).1,Ow.keep fun y hy=>?_,Nv,OG.keep fun y g1 g2=>?_,fun y hy e=>(oh y e).elim (vk y hy).1 (vN y hy).2,nd,M2.sb.trans s4⟩
    ·obtain⟨g1,g2⟩:=vk y hy;rw[k4 y (by rw[g2];exact g1),g2]
    ·have g3:=fr y g1 g2.2.1 g2.2.2.1;exact⟨by rw[k4 y (by rw[g3];exact g1),g3],g2.1,fun e=>(oh y e).elim g1 g2.2.2.1,g2.2.2.2⟩
  ·have hz:(gC2 bs xs.length r).k=0:=by simpa[zy,zc]using hz
   rw[vP hz]at e;obtain⟨rfl,rfl,rfl,rfl,rfl,P4,P5,P6,dd⟩:=Cm hz;obtain⟨_,far⟩:=Xn hz;have er2:=hrp2 hz;have ei2:(gC2 bs xs.length r).i=(p2:Int):=by rw[er2]
   have ei:r.i=(p:Int):=by rw[er]
   intro b1 hb1;have nb1:∀y,h2 y≠none->y≠b1:=fun y hy e=>hy (e▸hb1)
   have eC:(Obj.cells #[Value.int .i64 (gFl bs r),Value.int .i64 (gMt bs r).2,Value.int .i64 (gXf bs r).2,Value.int .i64 (gOs bs r).2,.slice a4 l4 c4,.slice a5 l5 c5,.slice a6 l6 c6,Value.int .i64 ((gSt bs xs.length r).2.length:Int)] 28)=.cells (el8 (qA bs xs.length r) (.slice a4 l4 c4,.slice a5 l5 c5,.slice a6 l6 c6)).toArray 28:=rfl;rw[eC];have s1:qaB h2 (upd h2 b1 (.cells (el8 (qA bs xs.length r) (.slice a4 l4 c4,.slice a5 l5 c5,.slice a6 l6 c6)).toArray 28)):=Sub.zx hb1;have kb:∀y,h2 y≠none->upd h2 b1 (.cells (el8 (qA bs xs.length r) (.slice a4 l4 c4,.slice a5 l5 c5,.slice a6 l6 c6)).toArray 28) y=h2 y:=fun y hy=>upd_ne (nb1 y hy)
   have cb:upd h2 b1 (.cells (el8 (qA bs xs.length r) (.slice a4 l4 c4,.slice a5 l5 c5,.slice a6 l6 c6)).toArray 28) b1=some (.cells (el8 (qA bs xs.length r) (.slice a4 l4 c4,.slice a5 l5 c5,.slice a6 l6 c6)).toArray 28):=upd_same;generalize upd h2 b1 (.cells (el8 (qA bs xs.length r) (.slice a4 l4 c4,.slice a5 l5 c5,.slice a6 l6 c6)).toArray 28)=hC at s1 kb cb ⊢;refine Pz (S:=yb oPP s) (h0:=h) (sz:=8) (us:=el8 (qA bs xs.length r) (.slice a4 l4 c4,.slice a5 l5 c5,.slice a6 l6 c6)) hi (M2.sb.trans s1) (Ow.keep fun y hy=>?_) Nv (fun j x hj=>?_) rfl (fun x hx=>?_) rfl (by omega) fun v3 h3 Ow3 Nv3 s3 k3 r3=>?_
   ·obtain⟨g1,g2⟩:=vk y hy;rw[kb y (by rw[g2];exact g1),g2]
   ·rw[y9];simp only[zg,cb,pD];exact hj
   ·simp only[el8,uU,pB,nA]at hx;rcases hx with rfl | rfl | rfl | rfl | rfl | rfl | rfl | rfl <;> exact⟨rfl,fun _ h=>(by cases h),fun _ h=>(by cases h)⟩
   ·obtain⟨a3,c3,rfl⟩:=Ow3.form;simp only[ze,zd,zi];have k2:∀y,h2 y≠none->zf (.slice a1 l1 c1)≠some y->h3 y=h2 y:=fun y g1 g2=>(k3 y (by rw[kb y g1];exact g1) g2).trans (kb y g1)
    have hbm2:h2 bm≠none:=by rw[hm2];simp
    have ob:∀y,zf (.slice ao' (xs++(gSt bs xs.length r).2).length co')=some y->zf (.slice a1 l1 c1)≠some y:=fun y hy g=>by
     rcases oh y hy with g3 | g3
     ·exact(vk y g).1 g3
     ·exact(vN y g).2 g3
    have vb:∀y,h2 y≠none->zf (.slice a1 l1 c1)≠some y->zf (.slice a3 (ms.length+1) c3)≠some y:=fun y g1 g2 g3=>by
     rcases r3 with r3 | r3
     ·exact g2 (r3▸g3)
     ·have:=r3 y g3;rw[kb y g1]at this;exact g1 this
    have m3:h3 bm=h2 bm:=k2 bm hbm2 (fun g=>(vN bm g).1 rfl);refine⟨⟨f1,gC2 bs xs.length r,xs++(gSt bs xs.length r).2,ms++[qA bs xs.length r],ao',co',.slice a3 (ms.length+1) c3,usl++[(.slice a4 l4 c4,.slice a5 l5 c5,.slice a6 l6 c6)],by simp,by omega,by rw[vR,uD];omega,hz,by omega,by omega,?_,?_,Nv3,?_,?_,e,UY nd dd fun y hy hm=>(OG.mem y hm).1 (by rcases Sk.1 hy with g | g | g;exact(P4.2 y g).1;exact(P5.2 y g).1;exact(P6.2 y g).1)⟩,?_⟩
    ·exact⟨⟨p2,w2,last2,l2,d2,hp2,hrp2,m3.trans hm2⟩,M2.pt.keep fun y hy=>k2 y (M2.pt.held y hy) (ob y hy),M2.nw,s3,M2.le⟩
    ·rw[vR,uD,Ho OG];exact Ow3
    ·intro y hy;refine⟨fun g=>?_,fun g=>?_⟩
     ·subst g;exact vb y hbm2 (fun g=>(vN y g).1 rfl) hy
     ·exact vb y (M2.pt.held y g) (ob y g) hy
    ·refine OGs.app ?_ (OG.keep fun y g1 g2=>?_)
     ·have pn:∀ {u:Value} {x:List Int},PU h' h2 bm (.slice ao' (xs++(gSt bs xs.length r).2).length co') u x->Part .u8 h3 u x/\∀y,zf u=some y->h y=none/\y≠bm/\zf (.slice ao' (xs++(gSt bs xs.length r).2).length co')≠some y/\zf (.slice a3 (ms.length+1) c3)≠some y:=fun P=>by
       have q:∀y,zf _=some y->zf (.slice a1 l1 c1)≠some y:=fun y hy g=>(vk y g).1 (P.2 y hy).1
       exact⟨P.1.keep fun y hy=>k2 y (P.1.held y hy) (q y hy),fun y hy=>⟨zU M.sb (P.2 y hy).1,(P.2 y hy).2.1,(P.2 y hy).2.2,vb y (P.1.held y hy) (q y hy)⟩⟩
      exact⟨(pn P4).1,(pn P5).1,(pn P6).1,fun y hy=>by
       rcases hy with g | g | g
       ·exact(pn P4).2 y g
       ·exact(pn P5).2 y g
       ·exact(pn P6).2 y g⟩
     ·have g3:=fr y g1 g2.2.1 g2.2.2.1;have g4:h2 y≠none:=by rw[g3];exact g1
      refine⟨(k2 y g4 g2.2.2.2).trans g3,g2.1,g2.2.1,fun g=>?_,vb y g4 g2.2.2.2⟩;rcases oh y g with g5 | g5
      ·exact g1 g5
      ·exact g2.2.2.1 g5
    ·have q1:posOf h' bm=p:=by unfold posOf;rw[(yy hm).2.1];rfl
     have q2:posOf h3 bm=p2:=by unfold posOf;rw[(yy (m3.trans hm2)).2.1];rfl
     simp only[q1,q2];omega
theorem g_impl_Gzip'(hi:qaC (yb oPP s) h)(G:ErrS h)(E:Ds h)(O:tB.O h v bs)(hb:okB bs)(L:jI bs) :
  zb oPP (yb oPP s) Cu #[v] h (PGz h (kF bs)):=(Sm hi G E O hb L).mono fun _ _ H=>H.gz
end
end
variable {B us:List Int}
section
theorem TQ{bs:List Int}:∀ {n:Nat} {r:Rd} {x:Int},(hig bs n r x).1.k=0->(hig bs n r x).1.i=r.i+8*n
 | 0,r,x,_=>by simp[hig]
 | n+1,r,x,H=>by
  unfold hig at H ⊢;have h1:=TQ H;have h2:=CX (bs:=bs) (n:=8) (r:=r) (UC H);rw[h1,h2];push_cast;omega
theorem TR(h:(alg r).k=0)(hn:(alg r).i/8=n:=by omega):alg r=⟨((8*n:Nat):Int),0⟩:=by
 unfold alg at h hn ⊢;by_cases h0:r.k=0
 ·rw[vP h0]at hn ⊢;simp only at hn;congr 1;omega
 ·rw[vM h0]at h;exact absurd h h0
theorem zcl{x:Nat}(hx:x<4294967296)(hB:4<=B.length)(H:AtY B (B.length-4) (be x 4))(hU:(zA B sz us r).2.2.1=(B.length:Int)):zX 1 (zA B sz us r).2.1=x:=by
 unfold zA at hU ⊢;by_cases hk:(zF B sz us r).k≠0
 ·rw[vP hk]at hU;simp only at hU;omega
 ·rw[vM hk]at hU ⊢;have hk:(zF B sz us r).k=0:=by omega
  simp only at hU ⊢;obtain⟨g1,g2,g3⟩:=UB (k:=4) (by decide) (show(bdK 4 ((zT B sz us r).2 != zX 1 (zO B sz us r)) (zT B sz us r).1).k=0 from hk);have g3:zF B sz us r=(zT B sz us r).1:=g3;rw[g3]at hU;have a1:(zT B sz us r).1.i=(alg (zE B sz us r).1).i+8*(4:Nat):=TQ g1;have a2:(alg (zE B sz us r).1).k=0:=UC g1;have ea:alg (zE B sz us r).1=⟨((8*(B.length-4):Nat):Int),0⟩:=TR a2;have eT:zT B sz us r=(⟨((8*(B.length-4+4):Nat):Int),0⟩,(x:Int)):=by unfold zT;rw[ea];exact Sf hx H
  rw[eT]at g2;have g2:(x:Int)=zX 1 (zO B sz us r):=by simpa using g2
  exact g2.symm
theorem Xo:(zA B sz us r).2.1=zO B sz us r:=by unfold zA;split <;> rfl
def OE(xs ds:List Int):List Int:=be (ql 7 (decide (0<ds.length))) 2++(if 0<ds.length then be (zX 1 ds).toNat 4 else [])++zC xs
theorem zaM{xs ds T B:List Int}(hl:xs.length<=29)(hw:∀y∈xs,0<=y/\y<=255)(hT:T.length<=4)(eB:B=OE xs ds++T):(xH B ds).2.1=xs:=by
 obtain⟨fx,hfx⟩:∃fx,fx=zC xs:=⟨_,rfl⟩;obtain⟨did,hdid⟩:∃did,did=(if 0<ds.length then be (zX 1 ds).toNat 4 else []):=⟨_,rfl⟩;obtain⟨f1,f2,f3⟩:=fix_len' hl hw;obtain⟨z1,z2,z3,z4⟩:=YR ⟨7,by omega⟩ (decide (0<ds.length));simp only at z1 z2 z3 z4;obtain⟨zh,hzh⟩:∃zh,zh=ql 7 (decide (0<ds.length)):=⟨_,rfl⟩;rw[<-hzh]at z1 z2 z3 z4;unfold OE at eB;rw[<-hdid,<-hfx,<-hzh]at eB;have ldid:did.length=if 0<ds.length then 4 else 0:=by rw[hdid];split <;> simp[xU]
 have lB:B.length=2+did.length+fx.length+T.length:=by rw[eB];simp only[vR,xU]
 rw[<-hfx]at f1;have lB2:B.length<=600:=by rw[lB,ldid];split <;> omega
 obtain⟨ad1,ad2⟩:=Bg 1 ds;have A1:AtY B 0 (be zh 2):=by
  have:=AtY.mk (A:=[]) (ys:=be zh 2) (C:=did++fx++T);rw[vI]at this;rw[eB];simpa[vX]using this
 have eH:zH B=(⟨((8*2:Nat):Int),0⟩,(zh:Int)):=zaI (q:=0) z1 A1;have eR:zR B=⟨((8*2:Nat):Int),0⟩:=by unfold zR;rw[eH];simp only;rw[z2];rfl
 have eAns:xH B ds=zA B (zS (zH B).2) (zD B ds).2 (zD B ds).1:=vM (by omega);have tail:∀vs:List Int,(zA B (zS zh) vs ⟨((8*(2+did.length):Nat):Int),0⟩).2.1=xs:=by
  intro vs;have hS:=Qs (x:=(zh:Int));have A2:AtB B (8*(2+did.length)) (x7 xs):=by
   have:=Zo (s:=x7 xs) JA (be zh 2++did) T;rw[show pk (x7 xs) (x7 xs).length=fx by rw[hfx];exact(vM (by omega)).symm]at this;rw[vR,xU]at this;rw[eB];simpa[vX]using this
  have hL:(zZ (zS zh) vs).length<=32768:=by rw[jz];omega
  have eE:zE B (zS zh) vs ⟨((8*(2+did.length):Nat):Int),0⟩=(⟨((8*(2+did.length)+(x7 xs).length:Nat):Int),0⟩,zZ (zS zh) vs++xs):=by
   unfold zE;exact Py hw (by omega) (uN _) (by omega) A2
  rw[Xo];unfold zO;rw[eE];exact List.drop_left
 rw[eAns,eH];by_cases hd0:0<ds.length
 ·rw[pZ hd0]at z4;have z4:((zh:Int)/32%2=1):=by rw[z4];rfl
  have ed:did=be (zX 1 ds).toNat 4:=by rw[hdid,vP hd0]
  have ld4:did.length=4:=by rw[ldid,vP hd0]
  have A4:AtY B 2 (be (zX 1 ds).toNat 4):=by
   have:=AtY.mk (A:=be zh 2) (ys:=be (zX 1 ds).toNat 4) (C:=fx++T);rw[xU]at this;rw[eB,ed];simpa[vX]using this
  have eI:zId B=(⟨((8*(2+4):Nat):Int),0⟩,zX 1 ds):=by unfold zId;rw[eR,Sf ad2 A4,<-ad1]
  have eD:zD B ds=(⟨((8*(2+did.length):Nat):Int),0⟩,ds):=by
   unfold zD;rw[eH,vP z4,eI];unfold bdK;rw[vM (by simp;intro e;rw[e]at hd0;simp at hd0),ld4]
  rw[eD];exact tail ds
 ·rw[pR hd0]at z4;have z4:¬((zh:Int)/32%2=1):=by rw[z4];decide
  have ld0:did.length=0:=by rw[ldid,vM hd0]
  have eD:zD B ds=(⟨((8*(2+did.length):Nat):Int),0⟩,[]):=by unfold zD;rw[eH,vM z4,eR,ld0]
  rw[eD];exact tail []
theorem UZ(hl:xs.length<=29)(hw:∀y∈xs,0<=y/\y<=255)(i:Nat)(y:Int) :
  (yh xs 7 ds).length<=600/\6<=(yh xs 7 ds).length/\((xH ((yh xs 7 ds).set i y) ds).2.2.1=((yh xs 7 ds).length:Int)->zX 1 (xH ((yh xs 7 ds).set i y) ds).2.1=zX 1 xs):=by
 obtain⟨az1,az2⟩:=Bg 1 xs;obtain⟨f1,f2,f3⟩:=fix_len' hl hw;have e0:yh xs 7 ds=OE xs ds++be (zX 1 xs).toNat 4:=by
  unfold yh OE;rw[vM (by omega)];rfl
 rw[e0];obtain⟨P,hP⟩:∃P,P=OE xs ds:=⟨_,rfl⟩;have lP:P.length<=596/\2<=P.length:=by
  rw[hP];unfold OE;simp only[vR,xU];split <;> simp only[xU,uF] <;> omega
 rw[<-hP];have lB:(P++be (zX 1 xs).toNat 4).length=P.length+4:=by rw[vR,xU]
 refine⟨by omega,by omega,fun hU=>?_⟩;rw[List.set_append]at hU ⊢;by_cases hi:i<P.length
 ·rw[vP hi]at hU ⊢;obtain⟨B,hB⟩:∃B,B=P.set i y++be (zX 1 xs).toNat 4:=⟨_,rfl⟩;have lB2:B.length=P.length+4:=by rw[hB,vR,xU,uR]
  rw[<-hB]at hU ⊢;have eAns:xH B ds=zA B (zS (zH B).2) (zD B ds).2 (zD B ds).1:=vM (by omega);rw[eAns]at hU ⊢;rw[az1];refine zcl az2 (by omega) ?_ (by rw[hU];omega);have:=AtY.mk (A:=P.set i y) (ys:=be (zX 1 xs).toNat 4) (C:=[]);rw[vK,uR]at this;rw[hB,show(P.set i y++be (zX 1 xs).toNat 4).length-4=P.length by rw[<-hB];omega];exact this
 ·rw[vM hi];rw[zaM (T:=(be (zX 1 xs).toNat 4).set (i-P.length) y) hl hw (by rw[uR,xU];exact uN _) (by rw[hP])]
end
variable {k:Int}{cd cs:List (Nat×Nat)}{al all:List Int}
section
def N1(r:Rd):Prop:=r.k≠1
section
theorem N1.mk{i k:Int}(h:k≠1):N1 ⟨i,k⟩:=h
theorem jd(H:N1 r):N1 (tk bs n r).1:=by
 unfold tk;split
 ·split <;> exact N1.mk (by decide)
 ·exact H
theorem AX(H:N1 r):N1 (bd w r):=by
 unfold bd;split
 ·exact N1.mk (by decide)
 ·exact H
theorem Va(hk:k≠1)(H:N1 r):N1 (bdK k w r):=by
 unfold bdK;split
 ·exact hk
 ·exact H
theorem Sn(H:N1 r):N1 (sy bs cs r).1:=by
 unfold sy;split
 ·refine N1.mk ?_;split
  ·decide
  ·split <;> decide
 ·exact H
theorem So{al d:List Int}(H:N1 r):N1 (tell dl room r al d).1:=by
 unfold tell;split
 ·split
  ·exact N1.mk (by decide)
  ·exact H
 ·exact H
theorem Zq(H:N1 r):N1 (alg r):=by
 unfold alg;split
 ·exact N1.mk (by decide)
 ·exact H
theorem zdA(H:N1 r):N1 (rp bs r all x).1:=by
 unfold rp;split
 ·exact jd (AX H)
 ·split
  ·exact jd H
  ·split
   ·exact jd H
   ·exact H
theorem Zr{tot:Nat}(H:N1 r):N1 (lg1 bs cs tot r all).1:=by
 unfold lg1;split
 ·exact AX (zdA (Sn H))
 ·exact Sn H
theorem zcm{cs:List (Nat×Nat)}{tot:Nat}:∀ {n:Nat} {r:Rd} {all:List Int},tot-all.length<=n->N1 r->N1 (lg bs cs tot r all).1
 | 0,r,all,hn,H=>by rw[j5 (fun e=>by omega)];exact H
 | n+1,r,all,hn,H=>by
  by_cases h:r.k=0/\all.length<tot
  ·rw[DL h];by_cases hk:(lg1 bs cs tot r all).1.k=0
   ·have:=(Ck (bs:=bs) (cs:=cs) (tot:=tot) (r:=r) (all:=all)).2.2 hk;exact zcm (n:=n) (by omega) (Zr H)
   ·rw[j5 (fun e=>hk e.1)];exact Zr H
  ·rw[j5 h];exact H
theorem zcn(H:N1 r):∀ {k:Nat},N1 (sm bs r k).1
 | 0=>H
 | k+1=>jd (zcn H)
theorem TS(H:N1 r):N1 (ym bs r).1:=by
 have h2:N1 (xn bs r).1:=zcn (jd (AX (jd (AX (jd H)))));have h4:N1 (qk bs r).1:=zcm (uN _) (AX h2);unfold ym;split
 ·exact AX h4
 ·exact h4
theorem zdb{s:Nat}(H:N1 r):N1 (cpF bs cd dl room sz r al s).1:=by
 have h3:N1 (cp3 bs cd r s):=AX (Sn (jd H));have h5:N1 (cp5 bs cd sz r al s):=AX (jd h3);unfold cpF;split
 ·exact h3
 ·split
  ·exact h5
  ·exact So h5
theorem zdc(H:N1 r):N1 (sy1 bs cd dl room sz r al x).1:=by
 unfold sy1;split
 ·exact So H
 ·split
  ·exact AX H
  ·exact zdb H
theorem Zs:∀ {n:Nat} {r:Rd} {al:List Int},N1 r->N1 (stL bs dl room n r al).1
 | 0,r,al,H=>H
 | n+1,r,al,H=>by
  unfold stL;split
  ·exact Zs (So (jd H))
  ·exact H
theorem Vb{cl cd:List (Nat×Nat)}:∀ {f:Nat} {r:Rd} {al:List Int},N1 r->N1 (syF bs cl cd dl room sz f r al).1
 | 0,r,al,H=>H
 | f+1,r,al,H=>by
  unfold syF;split
  ·split
   ·exact Sn H
   ·exact Vb (zdc (Sn H))
  ·exact H
theorem Zt(H:N1 r):N1 (blk bs dl room sz F r al).1:=by
 have h3:N1 (bk3 bs r):=AX (jd (jd H));unfold blk;split
 ·exact h3
 ·split
  ·exact Zs (AX (jd (jd (Zq h3))))
  ·split
   ·exact Vb h3
   ·split
    ·exact TS h3
    ·exact Vb (TS h3)
theorem Zu:∀ {f:Nat} {r:Rd} {al:List Int},N1 r->N1 (blF bs dl room sz F f r al).1
 | 0,r,al,H=>H
 | f+1,r,al,H=>by
  unfold blF;split
  ·split
   ·exact Zt H
   ·exact Zu (Zt H)
  ·exact H
theorem Zv:∀ {n:Nat} {r:Rd} {acc:List Int},N1 r->N1 (byL bs n r acc).1
 | 0,r,acc,H=>H
 | n+1,r,acc,H=>by
  unfold byL;split
  ·split
   ·exact Zv (jd H)
   ·exact jd H
  ·exact H
theorem Vd:∀ {n:Nat} {r:Rd} {acc:List Int},N1 r->N1 (txL bs n r acc).1
 | 0,r,acc,H=>H
 | n+1,r,acc,H=>by
  unfold txL;split
  ·split
   ·exact jd H
   ·exact Vd (jd H)
  ·exact H
theorem Zw(H:N1 r):N1 (gC2 bs told r):=by
 have h4:N1 (gOs bs r).1:=jd (jd (jd (AX (jd (AX (jd (AX (jd (AX (jd H))))))))));have h5:N1 (gEx bs r).1:=by
  unfold gEx;split
  ·exact Zv (jd h4)
  ·exact h4
 have h6:N1 (gNa bs r).1:=by
  unfold gNa;split
  ·exact Vd h5
  ·exact h5
 have h7:N1 (gCo bs r).1:=by
  unfold gCo;split
  ·exact Vd h6
  ·exact h6
 have h8:N1 (gHd bs r):=by
  unfold gHd;split
  ·exact Va (by decide) (jd h7)
  ·exact h7
 exact Va (by decide) (jd (Va (by decide) (jd (Zq (Zu h8)))))
end
theorem TU:∀ {f:Nat} {r:Rd} {out:List Int} {ms:List GM},ms.length<=(gZ B f r out ms).2.2.length
 | 0,r,out,ms=>uN _
 | f+1,r,out,ms=>by
  unfold gZ;split
  ·refine mQ ?_ TU;split
   ·simp
   ·exact uN _
  ·exact uN _
theorem zco(H:okR B r):okR B (gC2 B told r):=
 EI (by decide) (yp (EI (by decide) (yp (BK (MM (No H))))))
theorem Ve(hB:1<=B.length)(h1:(kF B).1=1)(hm:(kF B).2.2.1.length=1)(hL:B.length<=65536:=by omega) :
  gC2 B 0 ⟨0,0⟩=⟨((8*B.length:Nat):Int),0⟩/\(kF B).2.1=(gSt B 0 ⟨0,0⟩).2:=by
 have ok0:okR B ⟨0,0⟩:=fun _=>⟨nR _,by simp only;omega⟩
 have n0:N1 ⟨0,0⟩:=N1.mk (by decide);obtain⟨r1,h1r⟩:∃r,r=gC2 B 0 ⟨0,0⟩:=⟨_,rfl⟩;obtain⟨o1,h1o⟩:∃o,o=(gSt B 0 ⟨0,0⟩).2:=⟨_,rfl⟩;have ok1:okR B r1:=by rw[h1r];exact zco ok0
 have n1:N1 r1:=by rw[h1r];exact Zw n0
 have eA:qf B=gZ B (B.length+1) r1 o1 (if r1.k=0 then [qA B 0 ⟨0,0⟩]else []):=by
  unfold qf;rw[gZ,vP ⟨rfl,.inr rfl⟩,h1r,h1o];rfl
 have eN:kF B=if(qf B).1.k≠0 then((qf B).1.k,(qf B).2.1,(qf B).2.2,0)else(1,(qf B).2.1,(qf B).2.2,(B.length:Int)):=vM (by omega)
 have eM:(kF B).2.2.1=(qf B).2.2:=by rw[eN];split <;> rfl
 have eO:(kF B).2.1=(qf B).2.1:=by rw[eN];split <;> rfl
 have eK:(qf B).1.k≠1->(qf B).1.k=0:=fun hne=>by
  rw[eN]at h1;by_cases h:(qf B).1.k≠0
  ·rw[vP h]at h1;exact absurd h1 hne
  ·omega
 rw[eM]at hm;rw[eO,<-h1r,<-h1o];by_cases hk:r1.k=0
 ·rw[vP hk]at eA;have:=ok1 hk;by_cases hi:r1.i<8*(B.length:Int)
  ·exfalso;obtain⟨r2,h2r⟩:∃r,r=gC2 B o1.length r1:=⟨_,rfl⟩;have n2:N1 r2:=by rw[h2r];exact Zw n1
   rw[gZ,vP ⟨hk,.inl hi⟩,<-h2r]at eA;by_cases hk2:r2.k=0
   ·rw[vP hk2]at eA;have:=TU (B:=B) (f:=B.length) (r:=r2) (out:=o1++(gSt B o1.length r1).2) (ms:=[qA B 0 ⟨0,0⟩]++[qA B o1.length r1]);rw[<-eA,hm]at this;simp at this
   ·rw[vM hk2,G8 (fun h=>hk2 h.1)]at eA;rw[eA]at eK;exact hk2 (eK n2)
  ·rw[G8 (fun h=>by
    rcases h.2 with h | h
    ·exact hi h
    ·cases h)]at eA
   refine⟨?_,by rw[eA]⟩;obtain⟨ri,rk⟩:=r1;simp only at hk hi this;subst hk;congr 1;omega
 ·rw[vM hk,G8 (fun h=>hk h.1)]at eA;rw[eA]at hm;simp at hm
theorem zaN{x:Nat}(hx:x<4294967296)(hB:8<=B.length)(H:AtY B (B.length-8) (le x 4))(hE:gC2 B 0 r=⟨((8*B.length:Nat):Int),0⟩):k8 (gSt B 0 r).2=x:=by
 obtain⟨g1,g2,g3⟩:=UB (k:=4) (by decide) (show(bdK 4 ((gT2 B 0 r).2 != ((gSt B 0 r).2.length:Int)) (gT2 B 0 r).1).k=0 by
  have:(gC2 B 0 r).k=0:=by rw[hE]
  exact this)
 have g3:gC2 B 0 r=(gT2 B 0 r).1:=g3;have t2:(gT2 B 0 r).1.i=(gC1 B 0 r).i+(32:Nat):=CX g1;have k1:(gC1 B 0 r).k=0:=BI g1;obtain⟨g4,g5,g6⟩:=UB (k:=4) (by decide) (show(bdK 4 ((gT1 B 0 r).2 != k8 (gSt B 0 r).2) (gT1 B 0 r).1).k=0 from k1);have g6:gC1 B 0 r=(gT1 B 0 r).1:=g6;have t1:(gT1 B 0 r).1.i=(alg (gSt B 0 r).1).i+(32:Nat):=CX g4;have k0:(alg (gSt B 0 r).1).k=0:=BI g4;rw[<-g3,hE,g6,t1]at t2;simp only at t2;have ea:alg (gSt B 0 r).1=⟨((8*(B.length-8):Nat):Int),0⟩:=TR k0;have eT:gT1 B 0 r=(⟨((8*(B.length-8+4):Nat):Int),0⟩,(x:Int)):=by unfold gT1;rw[ea];exact Xc hx H
 rw[eT]at g5;have g5:(x:Int)=k8 (gSt B 0 r).2:=by simpa using g5
 exact g5.symm
def m0(n:Int):xD:=(0,0,0,0,[],[],[],n,())
theorem zcp(h:n<=29):kA (m0 n):=by
 unfold kA m0 mE mN mC;simp only[uF];refine⟨⟨by omega,by omega⟩,⟨by omega,by omega⟩,⟨by omega,by omega⟩,⟨by omega,by omega⟩,by omega,⟨by omega,by omega⟩,.inl trivial,.inl trivial,.inl trivial,by simp,by simp,by omega⟩
def L6(xs:List Int):List Int:=jc (m0 xs.length)++zC xs
theorem TX(hl:xs.length<=29):yf (m0 xs.length) xs=L6 xs++(le (jJ xs) 4++le xs.length 4):=by
 unfold yf;rw[vP ⟨zcp hl,rfl⟩];unfold G1 G2 G3 G4 G5 L6 Q4;have e1:∀es,OB (m0 xs.length).1 es=[]:=fun es=>vM (by unfold m0;simp)
 have e2:∀es,Dw (m0 xs.length).1 8 es=[]:=fun es=>vM (by unfold m0;simp)
 have e3:∀es,Dw (m0 xs.length).1 16 es=[]:=fun es=>vM (by unfold m0;simp)
 have e4:∀es,OD (m0 xs.length).1 es=[]:=fun es=>vM (by unfold m0;simp)
 rw[e1,e2,e3,e4];simp only[vK,vX]
theorem zaO{xs T B:List Int}(hl:xs.length<=29)(hw:∀y∈xs,0<=y/\y<=255)(eB:B=L6 xs++T):(gSt B 0 ⟨0,0⟩).2=xs:=by
 obtain⟨x,hx⟩:∃x,x=m0 xs.length:=⟨_,rfl⟩;have hv:kA x:=by rw[hx];exact zcp hl
 unfold L6 at eB;rw[<-hx]at eB;have A1:AtY B 0 (jc x):=by
  have:=AtY.mk (A:=[]) (ys:=jc x) (C:=zC xs++T);rw[vI]at this;rw[eB,vX];exact this
 obtain⟨e1,e2,e3,e4⟩:=zcZ A1 hv;have z0:(⟨((8*0:Nat):Int),0⟩:Rd)=⟨0,0⟩:=rfl;rw[z0]at e1 e2 e3 e4;have x0:x.1=0:=by rw[hx];rfl
 rw[x0]at e1;have e5:gEx B ⟨0,0⟩=(⟨((8*(0+10):Nat):Int),0⟩,[]):=by unfold gEx;rw[e1,vM (by decide),e4]
 have e6:gNa B ⟨0,0⟩=(⟨((8*(0+10):Nat):Int),0⟩,[]):=by unfold gNa;rw[e1,vM (by decide),e5]
 have e7:gCo B ⟨0,0⟩=(⟨((8*(0+10):Nat):Int),0⟩,[]):=by unfold gCo;rw[e1,vM (by decide),e6]
 have e8:gHd B ⟨0,0⟩=⟨((8*(0+10):Nat):Int),0⟩:=by unfold gHd;rw[e1,vM (fun h=>absurd h.1 (by decide)),e7]
 obtain⟨f1,f2,f3⟩:=fix_len' hl hw;have AF:AtB B (8*(0+10)) (x7 xs):=by
  have:=Zo (s:=x7 xs) JA (jc x) T;rw[show pk (x7 xs) (x7 xs).length=zC xs from (vM (by omega)).symm]at this;rw[Jq]at this;rw[eB,vX,uE];exact this
 have lB:B.length=10+(zC xs).length+T.length:=by rw[eB];simp only[vR,Jq]
 unfold gSt;rw[e8];have:=Py (B:=B) (dl:=0) (room:=100000-0) (sz:=32768) (F:=8*B.length+1) (f:=8*B.length) (al:=[]) hw (by omega) (uN _) (by simp only[uF];omega) AF;rw[this,vI]
theorem Vf(hl:xs.length<=29)(hw:∀y∈xs,0<=y/\y<=255)(i:Nat)(y:Int) :
  (yf (m0 xs.length) xs).length<=600/\18<=(yf (m0 xs.length) xs).length /\
  ((kF ((yf (m0 xs.length) xs).set i y)).1=1->(kF ((yf (m0 xs.length) xs).set i y)).2.2.1.length=1->k8 (kF ((yf (m0 xs.length) xs).set i y)).2.1=k8 xs):=by
 obtain⟨f1,f2,f3⟩:=fix_len' hl hw;rw[TX hl];obtain⟨P,hP⟩:∃P,P=L6 xs:=⟨_,rfl⟩;have lP:P.length<=580/\10<=P.length:=by
  rw[hP];unfold L6;simp only[vR,Jq];omega
 rw[<-hP];have lT:(le (jJ xs) 4++le xs.length 4).length=8:=by simp only[vR,qB]
 have lB:(P++(le (jJ xs) 4++le xs.length 4)).length=P.length+8:=by rw[vR,lT]
 refine⟨by omega,by omega,?_⟩;rw[List.set_append];by_cases hi:i<P.length
 ·rw[vP hi];obtain⟨B,hB⟩:∃B,B=P.set i y++(le (jJ xs) 4++le xs.length 4):=⟨_,rfl⟩;have lB2:B.length=P.length+8:=by rw[hB,vR,lT,uR]
  rw[<-hB];intro h1 hm;obtain⟨g1,g2⟩:=Ve (by omega) h1 hm;rw[g2];refine zaN DT (by omega) ?_ g1;have:=AtY.mk (A:=P.set i y) (ys:=le (jJ xs) 4) (C:=le xs.length 4);rw[uR]at this;rw[show B.length-8=P.length by omega,hB];exact this
 ·rw[vM hi];obtain⟨B,hB⟩:∃B,B=P++(le (jJ xs) 4++le xs.length 4).set (i-P.length) y:=⟨_,rfl⟩;have lB2:B.length=P.length+8:=by rw[hB,vR,uR,lT]
  rw[<-hB];intro h1 hm;obtain⟨g1,g2⟩:=Ve (by omega) h1 hm;rw[g2,zaO hl hw (by rw[hB,hP])]
end
variable {S:Shared}{b:Nat}{code:List Int}
section
def xr(h0 h:qaA)(b:Nat)(T:TypeId)(code:List Int)(a:Option Addr)(c:Nat):Prop:=
 ∃(i:Nat) (hh:Int),h b=some (.cells #[.slice a code.length c,.int .i64 i,.int .i64 hh] T)/\i<=code.length/\zk h0 .u8 a code/\qaB h0 h/\h0 b=none
theorem xr.sub(H:xr h0 h b T code a c):qaB h0 h:=by obtain⟨_,_,_,_,_,s,_⟩:=H;exact s
theorem xr.held(H:xr h0 h b T code a c):h b≠none:=by obtain⟨_,_,hb,_⟩:=H;rw[hb];simp
theorem xr.mono(H:xr h0 h b T code a c)(s:qaB h h1):xr h0 h1 b T code a c:=by
 obtain⟨i,hh,hb,hi,hx,s0,hn⟩:=H;exact⟨i,hh,s b _ hb,hi,hx,s0.trans s,hn⟩
theorem xr.keep(H:xr h0 h b T code a c)(s:qaB h0 h1)(hk:h1 b=h b):xr h0 h1 b T code a c:=by
 obtain⟨i,hh,hb,hi,hx,s0,hn⟩:=H;exact⟨i,hh,hk.trans hb,hi,hx,s,hn⟩
theorem zaP(hi:qaC S h)(hx:zk h .u8 a code)(hl:code.length<=1048576) :
  zb oPP S Eg #[.slice a code.length c] h (fun v h'=>∃b T,v=.pointer (some ⟨b,0,none⟩)/\xr h h' b T code a c):=by
 refine NV (vs:=[.slice a code.length c]) ⟨rfl,trivial⟩ hi ?_;simp only[IS,Tr.wp,Ex.ev,coerce,toInt_int,za,zd,zi,ze,zj,yg,zB,arith,Cst.val,SV.den,yF,zw,zY,zr,vF,vG,nJ,vA,vB,vC,vO,vU,vD,vE,vJ,vI,vK,uA];refine⟨fun us h'=>∃(i:Nat) (x:Int),us=[.int .i64 x,.int .i64 i]/\i<=code.length/\h'=h,fun us _=>code.length-(toInt (us.getD 1 undef)).toNat,⟨0,_,rfl,by omega,rfl⟩,?_⟩;rintro x y h' ⟨i,z,hx1,hi2,eq⟩;subst eq;obtain⟨rfl,rfl⟩:x=z/\y=i:=by simpa using hx1
 refine⟨fun hlt=>?_,fun hge=>?_⟩
 ·have hi3:i<code.length:=by omega
  obtain⟨g1,g2⟩:=hx.cell (vQ hi3);have w2:IntKind.i64.wrap ((i:Int)+1)=((i+1:Nat):Int):=z9;rw[w2];exact⟨by simpa using g2,by omega,hlt,code[i],by simpa[add_add]using g1,⟨i+1,_,rfl,by omega,rfl⟩,by simp only[vB,vA,toInt_int];omega⟩
 ·intro b hb;exact⟨b,_,rfl,0,x,upd_same,lE _,hx,Sub.zx hb,hb⟩
theorem EL(hi:qaC S h0)(H:xr h0 h b T code a c)(hl:code.length<=1048576) :
  zb oPP S jG #[.pointer (some ⟨b,0,none⟩)] h (fun v h'=>∃x,v=.int .i64 x/\0<=x/\x<=255/\xr h0 h' b T code a c/\∀y,y≠b->h' y=h y):=by
 obtain⟨i,hh,hb,hi2,hx,s,hn⟩:=H;have hsb:¬S b:=fun hs=>hi b hs hn
 refine M9 (vs:=[.pointer (some ⟨b,0,none⟩)]) ⟨rfl,trivial⟩ (hi.sub s) ?_;simp only[HU,Tr.wp,Ex.ev,coerce,toInt_int,za,zd,zi,ze,zj,zN,yg,yq,zB,arith,Cst.val,SV.den,zw,zr,ye,vA,vB,vC,vO,vU,vD,vE,vJ,vI,uE,uI,uA,zp];have ld:∀ {h':qaA} {i:Nat} {hh:Int},h' b=some (.cells #[.slice a code.length c,.int .i64 i,.int .i64 hh] T)->zg h' ⟨b,0,none⟩=some (.slice a code.length c)/\zg h' ⟨b,1,none⟩=some (.int .i64 i)/\zg h' ⟨b,2,none⟩=some (.int .i64 hh):=fun {h' i hh} hb=>by simp[zg,hb]
 obtain⟨g0,g1,g2⟩:=ld hb;have XL:∀m:Int,zJ h ⟨b,2,none⟩ (.int .i64 m)=upd h b (.cells #[.slice a code.length c,.int .i64 i,.int .i64 m] T):=fun m=>by rw[hset_cells' hb];rfl
 have ok2:yU S h ⟨b,2,none⟩:=⟨⟨_,g2⟩,by simp[y8,hb],hsb⟩;refine⟨by simp,hh,g2,by simp,ok2,?_⟩;rw[XL];obtain⟨m,hm⟩:∃m,m=IntKind.i64.wrap (IntKind.i64.wrap (hh*6364136223846793005)+1442695040888963407):=⟨_,rfl⟩;rw[<-hm];have hb1:upd h b (.cells #[.slice a code.length c,.int .i64 i,.int .i64 m] T) b=some (.cells #[.slice a code.length c,.int .i64 i,.int .i64 m] T):=upd_same;obtain⟨k0,k1,k2⟩:=ld hb1;have hs1:qaB h0 (upd h b (.cells #[.slice a code.length c,.int .i64 i,.int .i64 m] T)):=fun y o hy=>by rw[upd_ne (fun e=>by rw[e,hn]at hy;cases hy)];exact s y o hy
 refine⟨by simp,m,k2,by simp,m,k2,by simp,i,k1,by simp,_,_,_,k0,fun hlt=>?_,fun hge _=>?_⟩
 ·have hi3:i<code.length:=by omega
  obtain⟨e1,e2⟩:=(hx.sub hs1).cell (vQ hi3);refine⟨by simp,_,_,_,k0,by simp,i,k1,by simpa using e2,by omega,hlt,code[i],by simpa[add_add]using e1,by simp,i,k1,by simp,⟨⟨_,k1⟩,by simp[y8,hb1],hsb⟩,?_⟩;intro _;have w2:IntKind.i64.wrap ((i:Int)+1)=((i+1:Nat):Int):=z9;have XK:zJ (upd h b (.cells #[.slice a code.length c,.int .i64 i,.int .i64 m] T)) ⟨b,1,none⟩ (.int .i64 ((i+1:Nat):Int))=upd h b (.cells #[.slice a code.length c,.int .i64 ((i+1:Nat):Int),.int .i64 m] T):=by rw[hset_cells' hb1,xe];rfl
  rw[w2,XK];have hm:=QW (y:=IntKind.i64.wrap (Go.bits .and .i64 (Go.bits .xor .i64 (m.fdiv (2^min (Int.toNat 33) IntKind.i64.bits)) (m.fdiv (2^min (Int.toNat 45) IntKind.i64.bits))) 255+IntKind.i64.wrap code[i])) (m:=255);exact⟨_,rfl,hm.1,hm.2,⟨i+1,m,upd_same,by omega,hx,fun y o hy=>by rw[upd_ne (fun e=>by rw[e,hn]at hy;cases hy)];exact s y o hy,hn⟩,fun y hy=>upd_ne hy⟩
 ·have hm:=QW (y:=Go.bits .xor .i64 (m.fdiv (2^min (Int.toNat 33) IntKind.i64.bits)) (m.fdiv (2^min (Int.toNat 45) IntKind.i64.bits))) (m:=255);exact⟨_,rfl,hm.1,hm.2,⟨i,m,upd_same,hi2,hx,hs1,hn⟩,fun y hy=>upd_ne hy⟩
theorem Dd(hi:qaC S h0)(H:xr h0 h b T code a c)(hl:code.length<=1048576)(n:Int)(h1:1<=n:=by omega)(h2:n<=1000000:=by omega) :
  zb oPP S jk #[.pointer (some ⟨b,0,none⟩),.int .i64 n] h (fun v h'=>∃x,v=.int .i64 x/\0<=x/\x<n/\xr h0 h' b T code a c/\∀y,y≠b->h' y=h y):=by
 refine Lc (vs:=[.pointer (some ⟨b,0,none⟩),.int .i64 n]) ⟨rfl,rfl,trivial⟩ (hi.sub H.sub) ?_;simp only[Gj,Tr.wp,z8,Ex.ev,coerce,toInt_int,za,zN,zB,arith,Cst.val,SV.den,zq,zK,zz,zm,zl,zw,vF,vG,vA,vB,vO,vU,vD,vE,vJ,vI,vK,vY,vL];have hn0:(n != 0)=true:=fN.2 (by omega);have md:∀x:Int,0<=x->0<=x.tmod n/\x.tmod n<n:=fun x hx=>by
  rw[uG hx];exact⟨Int.emod_nonneg _ (by omega),Int.emod_lt_of_pos _ (by omega)⟩
 refine⟨fun hle=>?_,fun hgt=>?_⟩
 ·refine(EL hi H hl).mono ?_;rintro _ h3 ⟨x,rfl,x0,x1,C,f⟩;have:=md x x0;exact⟨_,rfl,hn0,_,rfl,this.1,this.2,C,f⟩
 ·refine(EL hi H hl).mono ?_;rintro _ h3 ⟨x,rfl,x0,x1,C,f⟩;refine⟨_,rfl,?_⟩;refine(EL hi C hl).mono ?_;rintro _ h4 ⟨y,rfl,y0,y1,C2,f2⟩;refine⟨_,rfl,?_⟩;refine(EL hi C2 hl).mono ?_;rintro _ h5 ⟨z,rfl,z0,z1,C3,f3⟩;have w:IntKind.i64.wrap (IntKind.i64.wrap (IntKind.i64.wrap (x*65536)+IntKind.i64.wrap (y*256))+z)=x*65536+y*256+z:=by
   rw[i64_in (x*65536) (by omega),i64_in (y*256) (by omega),i64_in (x*65536+y*256) (by omega),i64_in _ (by omega)]
  refine⟨_,rfl,hn0,?_⟩;rw[w];have:=md (x*65536+y*256+z) (by omega);exact⟨_,rfl,this.1,this.2,C3,fun y hy=>by rw[f3 y hy,f2 y hy,f y hy]⟩
theorem YS(hi:qaC S h0)(H:xr h0 h b T code a c)(hl:code.length<=1048576)(n:Nat)(h2:n<=100000) :
  zb oPP S Dg #[.pointer (some ⟨b,0,none⟩),.int .i64 n] h (fun v h'=>∃ys:List Int,ys.length=n/\tB.O h' v ys/\tB.New h v/\xr h0 h' b T code a c/\(∀y,h y≠none->y≠b->h' y=h y)/\∀y∈ys,0<=y/\y<256):=by
 refine M8 (vs:=[.pointer (some ⟨b,0,none⟩),.int .i64 n]) ⟨rfl,rfl,trivial⟩ (hi.sub H.sub) ?_;simp only[HT,Tr.wp,z8,Ex.ev,coerce,toInt_int,za,zd,zi,ze,zN,zB,arith,Cst.val,SV.den,zq,zK,zz,zm,zl,zw,zY,vF,vG,vA,vB,vC,vO,vU,vD,vE,vJ,vI,vK,vY,vL];intro b0 hb0;have hb00:=zU H.sub hb0;have hne0:b0≠b:=fun e=>H.held (e▸hb0)
 have s0:qaB h (upd h b0 (.cells (ints .u8 []) 5)):=Sub.zx hb0;refine⟨fun us h'=>∃(a1:Option Addr) (c1 i:Nat) (ys:List Int),us=[.slice a1 i c1,.int .i64 i]/\i<=n/\ys.length=i/\Part .u8 h' (.slice a1 i c1) ys/\(∀y,zf (.slice a1 i c1)=some y->h y=none)/\xr h0 h' b T code a c/\(∀y,h y≠none->y≠b->h' y=h y)/\∀y∈ys,0<=y/\y<256,
  fun us _=>n-(toInt (us.getD 1 undef)).toNat,⟨_,_,0,[],rfl,by omega,rfl,(Own.made []).part,New.of hb0,H.mono s0,fun y hy _=>upd_ne fun e=>hy (e▸hb0),fun y hy=>by cases hy⟩,?_⟩
 rintro a1 l1 c1 x h' ⟨a1',c1',i,ys,hx1,hi2,hy,P,N,C,f,hbs⟩;obtain⟨⟨rfl,rfl,rfl⟩,rfl⟩:(a1=a1'/\l1=i/\c1=c1')/\x=i:=by simpa using hx1
 refine⟨fun hlt=>?_,fun hge=>?_⟩
 ·refine(EL hi C hl).mono ?_;rintro _ h3 ⟨x,rfl,x0,x1,C2,f2⟩;have hnb:zf (.slice a1 l1 c1)≠some b:=fun e=>by have:=N b e;exact H.held this
  have P2:Part .u8 h3 (.slice a1 l1 c1) ys:=P.keep fun y hy=>f2 y fun e=>hnb (e▸hy)
  refine⟨_,rfl,fun b1 hb1=>?_⟩;have s3:qaB h3 (upd h3 b1 (.cells (ints .u8 [IntKind.u8.wrap x]) 5)):=Sub.zx hb1;refine zI hi (C2.sub.trans s3) (P2.sub s3) (fun y hy=>zU H.sub (N y hy)) (ys:=[IntKind.u8.wrap x]) zk.new (by simp only[uD];omega) fun v' h4 o n4 s4 keep hblk=>?_
  obtain⟨a4,c4,rfl,_,_⟩:=o.ints;have keep':∀y,upd h3 b1 (.cells (ints .u8 [IntKind.u8.wrap x]) 5) y≠none->zf (.slice a1 l1 c1)≠some y->h4 y=upd h3 b1 (.cells (ints .u8 [IntKind.u8.wrap x]) 5) y:=keep;have h3b:upd h3 b1 (.cells (ints .u8 [IntKind.u8.wrap x]) 5) b=h3 b:=upd_ne fun e=>C2.held (e▸hb1)
  have w2:IntKind.i64.wrap ((l1:Int)+1)=((l1+1:Nat):Int):=z9;have el:(ys++[IntKind.u8.wrap x]).length=l1+1:=by simp[hy]
  rw[el]at o n4 hblk;simp only[ze,zd,zi,w2,el];refine⟨⟨a4,c4,l1+1,_,rfl,by omega,el,o,?_,C2.keep s4 (by rw[keep' b (by rw[h3b];exact C2.held) hnb,h3b]),fun y hy1 hy2=>?_,fun y hy=>?_⟩,by simp only[vB,vA,toInt_int];omega⟩
  ·rcases hblk with e | e
   ·intro y hy;rw[e]at hy;exact N y hy
   ·intro y hy2;have h5:upd h3 b1 (.cells (ints .u8 [IntKind.u8.wrap x]) 5) y=none:=e y hy2;have h6:=zU s3 h5;by_cases hyb:y=b
    ·subst hyb;exact absurd h6 C2.held
    ·rw[f2 y hyb]at h6;cases hh:h y with
     | none=>rfl
     | some o=>rw[f y (by rw[hh];simp) hyb,hh]at h6;cases h6
  ·have h5:h3 y=h y:=by rw[f2 y hy2,f y hy1 hy2]
   have h6:upd h3 b1 (.cells (ints .u8 [IntKind.u8.wrap x]) 5) y=h3 y:=upd_ne fun e=>hy1 (by rw[<-h5,e];exact hb1)
   rw[keep' y (by rw[h6,h5];exact hy1) (fun e=>hy1 (N y e)),h6,h5]
  ·rcases pO.1 hy with hy | hy
   ·exact hbs y hy
   ·rw[uO.1 hy,pG];omega
 ·obtain rfl:l1=n:=by omega
  exact⟨ys,hy,P,N,C,f,hbs⟩
end
variable {a1:Option Addr}{ys:List Int}
section
theorem L8(hi:qaC S h0)(H:xr h0 h b T code a c)(hl:code.length<=1048576)(n:Int)(h1:1<=n:=by omega)(h2:n<=1000000:=by omega) :
  zb oPP S wy #[.pointer (some ⟨b,0,none⟩),.int .i64 n] h (fun v h'=>∃x,v=.bool x/\xr h0 h' b T code a c/\∀y,y≠b->h' y=h y):=by
 refine MD (vs:=[.pointer (some ⟨b,0,none⟩),.int .i64 n]) ⟨rfl,rfl,trivial⟩ (hi.sub H.sub) ?_;simp only[HW,Tr.wp,z8,Ex.ev,coerce,toInt_int,zN,zB,Cst.val,SV.den,zq,zK,zz,zm,zl,zw,vF,vG,vA,vB,vD,vE,vJ,vI,vK,vY,vL];refine(Dd hi H hl n h1 h2).mono ?_;rintro _ h3 ⟨x,rfl,_,_,C,f⟩;exact⟨_,rfl,_,rfl,C,f⟩
def Zx(h0 h:qaA)(b:Nat)(T:TypeId)(code:List Int)(a:Option Addr)(c:Nat)(P:List Int->Prop)(v:Value)(h':qaA):Prop:=
 ∃ys:List Int,P ys/\tB.O h' v ys/\tB.New h v/\xr h0 h' b T code a c/\(∀y,h y≠none->y≠b->h' y=h y)/\∀y∈ys,0<=y/\y<256
theorem YT(hi:qaC S h0)(H:xr h0 h b T code a c){l1 c1:Nat}{h3:qaA}(hy:ys.length=l1)(P:Part .u8 h3 (.slice a1 l1 c1) ys)(N:∀y,zf (.slice a1 l1 c1)=some y->h y=none)(C2:xr h0 h3 b T code a c)(f:∀y,h y≠none->y≠b->h3 y=h y)(hl:ys.length<=1000000){b1:Nat}(hb1:h3 b1=none)(x:Int){ty:TypeId}{byt:Nat}(hby:byt<=16){K:Value->qaA->Prop}
  (hK:∀a4 c4 h4,Part .u8 h4 (.slice a4 (l1+1) c4) (ys++[x])->(∀y,zf (.slice a4 (l1+1) c4)=some y->h y=none)->xr h0 h4 b T code a c->(∀y,h y≠none->y≠b->h4 y=h y)->K (.slice a4 (l1+1) c4) h4) :
  appW S ty 1 byt [.int .u8 0] (.slice a1 l1 c1) (.slice (some ⟨b1,0,none⟩) 1 1) (upd h3 b1 (.cells (ints .u8 [x]) 5)) K:=by
 have hnb:zf (.slice a1 l1 c1)≠some b:=fun e=>H.held (N b e)
 have s3:qaB h3 (upd h3 b1 (.cells (ints .u8 [x]) 5)):=Sub.zx hb1;have hlen:(ys.length + [x].length)*byt<=1000001*16:=Nat.mul_le_mul (by simp only[uD];omega) hby;refine zI hi (C2.sub.trans s3) (P.sub s3) (fun y hy=>zU H.sub (N y hy)) (ys:=[x]) zk.new (mQ hlen (by decide)) fun v' h4 o n4 s4 keep hblk=>?_
 obtain⟨a4,c4,rfl,_,_⟩:=o.ints;have h3b:upd h3 b1 (.cells (ints .u8 [x]) 5) b=h3 b:=upd_ne fun e=>C2.held (e▸hb1)
 have el:(ys++[x]).length=l1+1:=by simp[hy]
 rw[el]at o n4 hblk ⊢;refine hK a4 c4 h4 o ?_ (C2.keep s4 (by rw[keep b (by rw[h3b];exact C2.held) hnb,h3b])) (fun y hy1 hy2=>?_)
 ·rcases hblk with e | e
  ·intro y hy;rw[e]at hy;exact N y hy
  ·intro y hy2;have h6:=zU s3 (e y hy2);cases hh:h y with
   | none=>rfl
   | some o=>
    by_cases hyb:y=b
    ·subst hyb;exact absurd h6 C2.held
    ·rw[f y (by rw[hh];simp) hyb,hh]at h6;cases h6
 ·have h5:h3 y=h y:=f y hy1 hy2;have h6:upd h3 b1 (.cells (ints .u8 [x]) 5) y=h3 y:=upd_ne fun e=>hy1 (by rw[<-h5,e];exact hb1)
  rw[keep y (by rw[h6,h5];exact hy1) (fun e=>hy1 (N y e)),h6,h5]
theorem Sq(hi:qaC S h0)(H:xr h0 h b T code a c)(hl:code.length<=1048576)(most:Int)(hm1:1<=most:=by omega)(hm2:most<=100000:=by omega) :
  zb oPP S AJ #[.pointer (some ⟨b,0,none⟩),.int .i64 most] h (Zx h0 h b T code a c fun ys=>(ys.length:Int)<most):=by
 refine MB (vs:=[.pointer (some ⟨b,0,none⟩),.int .i64 most]) ⟨rfl,rfl,trivial⟩ (hi.sub H.sub) ?_;simp only[HV,Tr.wp,z8,Ex.ev,coerce,toInt_int,za,zd,zi,ze,zN,zB,arith,Cst.val,SV.den,zq,zK,zz,zm,zl,zw,zY,vF,vG,vA,vB,vC,vT,vO,vU,vD,vE,vJ,vI,vK,vY,vL];refine(Dd hi H hl most hm1).mono ?_;rintro _ h1 ⟨n,rfl,n0,n1,C1,f1⟩;refine⟨_,rfl,?_⟩;refine(L8 hi C1 hl 6).mono ?_;rintro _ h2 ⟨t,rfl,C2,f2⟩;obtain⟨m,rfl⟩:=vZ n0;have back:∀y,h2 y=none->h y=none:=fun y hy=>by
  by_cases hyb:y=b
  ·subst hyb;exact absurd hy C2.held
  ·rw[f2 y hyb,f1 y hyb]at hy;exact hy
 have fw:∀y,y≠b->h2 y=h y:=fun y hyb=>by rw[f2 y hyb,f1 y hyb]
 refine⟨_,rfl,fun ht=>?_,fun ht=>?_⟩
 ·refine(YS hi C2 hl m (by omega)).mono ?_;rintro _ h3 ⟨ys,hy,O,N,C3,f3,hbs⟩;obtain⟨a3,c3,rfl⟩:=U1 (tB.OR O);exact⟨_,_,_,rfl,ys,by omega,O,fun y hy=>back y (N y hy),C3,fun y h1 h2=>by rw[f3 y (by rw[fw y h2];exact h1) h2,fw y h2],hbs⟩
 ·intro b0 hb0;have s0:qaB h2 (upd h2 b0 (.cells (ints .u8 []) 5)):=Sub.zx hb0;refine⟨fun us h'=>∃(a1:Option Addr) (c1 i:Nat) (ys:List Int),us=[.slice a1 i c1,.int .i64 i]/\i<=m/\ys.length=i/\Part .u8 h' (.slice a1 i c1) ys/\(∀y,zf (.slice a1 i c1)=some y->h y=none)/\xr h0 h' b T code a c/\(∀y,h y≠none->y≠b->h' y=h y)/\∀y∈ys,0<=y/\y<256,
   fun us _=>m-(toInt (us.getD 1 undef)).toNat,⟨_,_,0,[],rfl,by omega,rfl,(Own.made []).part,fun y hy=>back y (New.of hb0 y hy),C2.mono s0,fun y h1 h2=>by rw[upd_ne fun e=>h1 (by rw[<-fw y h2,e];exact hb0),fw y h2],fun y hy=>by cases hy⟩,?_⟩
  rintro a1 l1 c1 x h' ⟨a1',c1',i,ys,hx1,hi2,hy,P,N,C,f,hbs⟩;obtain⟨⟨rfl,rfl,rfl⟩,rfl⟩:(a1=a1'/\l1=i/\c1=c1')/\x=i:=by simpa using hx1
  refine⟨fun hlt=>?_,fun hge=>?_⟩
  ·refine(Dd hi C hl 3).mono ?_;rintro _ h3 ⟨x,rfl,x0,x1,C3,f3⟩;have hnb:zf (.slice a1 l1 c1)≠some b:=fun e=>H.held (N b e)
   refine⟨_,rfl,fun b1 hb1=>?_⟩;have w2:IntKind.i64.wrap ((l1:Int)+1)=((l1+1:Nat):Int):=z9;refine YT hi H hy (P.keep fun y hy=>f3 y fun e=>hnb (e▸hy)) N C3 (fun y h1 h2=>by rw[f3 y h2,f y h1 h2]) (by omega) hb1 _ (by omega) fun a4 c4 h4 P4 N4 C4 f4=>?_
   simp only[ze,zd,zi,w2];refine⟨⟨a4,c4,l1+1,_,rfl,by omega,by simp[hy],P4,N4,C4,f4,fun y hy=>?_⟩,by simp only[vB,vA,toInt_int];omega⟩;rcases pO.1 hy with hy | hy
   ·exact hbs y hy
   ·rw[uO.1 hy,pG];omega
  ·obtain rfl:l1=m:=by omega
   exact⟨ys,by omega,P,N,C,f,hbs⟩
end
variable {a2:Option Addr}{c1 c2:Nat}
section
theorem PC(hi:qaC S h)(H1:zk h .u8 a1 xs)(H2:zk h .u8 a2 xs) :
  zb oPP S jj #[.slice a1 xs.length c1,.slice a2 xs.length c2] h (fun v h'=>v=.bool true/\h'=h):=by
 refine E3 (vs:=[.slice a1 xs.length c1,.slice a2 xs.length c2]) ⟨rfl,rfl,trivial⟩ hi ?_;simp only[Cj,Tr.wp,Ex.ev,coerce,zd,zi,ze,SV.den,vA,vB,vJ,vI,uA];exact⟨xs,rfl,H1.cells (c:=c1),xs,rfl,H2.cells (c:=c2),by simp[Uc,DV]⟩
end
section
section
theorem YU(hi:qaC S h0)(H:xr h0 h b T code a c)(hl:code.length<=1048576) :
  zb oPP S AK #[.pointer (some ⟨b,0,none⟩)] h (Zx h0 h b T code a c fun ys=>ys.length<=100):=by
 refine ME (vs:=[.pointer (some ⟨b,0,none⟩)]) ⟨rfl,trivial⟩ (hi.sub H.sub) ?_;simp only[HX,Tr.wp,z8,Ex.ev,coerce,za,zd,zi,ze,zN,Cst.val,SV.den,zq,zK,zz,zm,zl,zw,vF,vG,vA,vB,vD,vE,vJ,vI,vK,vY,vL];refine(L8 hi H hl 2).mono ?_;rintro _ h1 ⟨t,rfl,C1,f1⟩;have back:∀y,h1 y=none->h y=none:=fun y hy=>by
  by_cases hyb:y=b
  ·subst hyb;exact absurd hy C1.held
  ·rw[f1 y hyb]at hy;exact hy
 refine⟨_,rfl,fun ht=>?_,fun ht=>?_⟩
 ·intro b0 hb0;have e0:(#[]:Array Value)=ints .u8 []:=rfl;rw[e0];have s0:qaB h1 (upd h1 b0 (.cells (ints .u8 []) 5)):=Sub.zx hb0;exact⟨[],by simp,(Own.made (k:=.u8) (h:=h1) (b:=b0) (T:=5) []).part,fun y hy=>back y (New.of hb0 y hy),C1.mono s0,fun y g1 g2=>by rw[upd_ne fun e=>g1 (by rw[<-f1 y g2,e];exact hb0),f1 y g2],fun y hy=>by cases hy⟩
 ·intro b0 hb0;have e0:(#[Value.int .u8 100]:Array Value)=ints .u8 [100]:=rfl;rw[e0];have s0:qaB h1 (upd h1 b0 (.cells (ints .u8 [100]) 5)):=Sub.zx hb0;have hb0b:b0≠b:=fun e=>C1.held (e▸hb0)
  refine(Sq hi (C1.mono s0) hl 16).mono ?_;rintro _ h2 ⟨ys,hy,O,N,C2,f2,hbs⟩;obtain⟨a2,c2,rfl⟩:=U1 (tB.OR O);obtain⟨_,_,e2,hc2,g2⟩:=Part.ints O;cases e2
  refine⟨_,_,_,rfl,?_⟩;have P0:Part .u8 h2 (.slice (some ⟨b0,0,none⟩) 1 1) [100]:=((Own.made (k:=.u8) (h:=h1) (b:=b0) (T:=5) [100]).part).keep fun y hy=>by
   cases hy;exact f2 b0 (by rw[upd_same];simp) hb0b
  have hnb:∀o,zf (.slice (some ⟨b0,0,none⟩) 1 1)=some o->o=b0:=fun o ho=>by cases ho;rfl
  refine zI hi C2.sub P0 (fun y hy=>by rw[hnb y hy];exact zU H.sub (back b0 hb0)) g2 (by simp only[uD];omega) fun v' h3 o3 n3 s3 keep hblk=>?_
  have cur:h3 b=h2 b:=keep b C2.held (fun e=>by cases e;exact hb0b rfl);obtain⟨a3,c3,rfl,_,_⟩:=o3.ints;refine⟨100::ys,by simp only[uB];omega,o3,?_,C2.keep s3 cur,fun y g1 g2=>?_,fun y hy=>?_⟩
  ·rcases hblk with e | e
   ·intro y hy;have hy:zf (.slice a3 ([100]++ys).length c3)=some y:=hy;rw[e]at hy;rw[hnb y hy];exact back b0 hb0
   ·intro y hy;have h6:=e y hy;cases hh:h y with
    | none=>rfl
    | some o=>
     by_cases hyb:y=b
     ·subst hyb;exact absurd h6 C2.held
     ·have h5:h1 y=some o:=by rw[f1 y hyb,hh]
      have hyb0:y≠b0:=fun e=>by rw[e,hb0]at h5;cases h5
      have:h2 y=some o:=by rw[f2 y (by rw[upd_ne hyb0,h5];simp) hyb,upd_ne hyb0,h5]
      rw[this]at h6;cases h6
  ·have h5:h1 y=h y:=f1 y g2;have hyb0:y≠b0:=fun e=>g1 (by rw[<-h5,e];exact hb0)
   have h6:h2 y=h y:=by rw[f2 y (by rw[upd_ne hyb0,h5];exact g1) g2,upd_ne hyb0,h5]
   rw[keep y (by rw[h6];exact g1) (fun e=>hyb0 (hnb y e)),h6]
  ·rcases uU.1 hy with rfl | hy
   ·omega
   ·exact hbs y hy
theorem L9(hi:qaC S h)(hx:zk h .u8 a code)(hl:code.length<=1048576) :
  zb oPP S qx #[.slice a code.length c] h (fun v h'=>∃(a1 a2:Option Addr) (c1 c2:Nat) (ys ds:List Int) (n:Int),v=.tuple #[.slice a1 ys.length c1,.int .i64 n,.slice a2 ds.length c2]/\ys.length<=29/\ds.length<=100/\tB.O h' (.slice a1 ys.length c1) ys/\tB.O h' (.slice a2 ds.length c2) ds/\qaB h h'/\okB ys/\okB ds /\ -1<=n/\n<=8):=by
 refine EP (vs:=[.slice a code.length c]) ⟨rfl,trivial⟩ hi ?_;simp only[Bc,Tr.wp,z8,Ex.ev,coerce,toInt_int,za,zd,zi,ze,zN,arith,Cst.val,SV.den,zq,zK,zz,zm,zl,zw,vF,vG,vA,vB,vC,vD,vE,vJ,vI,vK,vY,vL];refine(zaP hi hx hl).mono ?_;rintro _ h1 ⟨b,T,rfl,C1⟩;refine⟨_,rfl,?_⟩;refine(Sq hi C1 hl 30).mono ?_;rintro _ h2 ⟨ys,hy,O,N,C2,f2,hbs⟩;obtain⟨a2,c2,rfl⟩:=U1 (tB.OR O);have hnb:∀y,zf (.slice a2 ys.length c2)=some y->y≠b:=fun y hy e=>C1.held (e▸N y hy)
 refine⟨_,_,_,rfl,?_⟩;refine(Dd hi C2 hl 8).mono ?_;rintro _ h3 ⟨p,rfl,p0,p1,C3,f3⟩;refine⟨_,rfl,?_⟩;refine(L8 hi C3 hl 12).mono ?_;rintro _ h4 ⟨t,rfl,C4,f4⟩;have O4:tB.O h4 (.slice a2 ys.length c2) ys:=tB.Okeep O fun y hy=>by rw[f4 y (hnb y hy),f3 y (hnb y hy)]
 have fin:∀(h5:qaA),xr h h5 b T code a c->(∀y,y≠b->h5 y=h4 y)->zb oPP S AK #[.pointer (some ⟨b,0,none⟩)] h5 (fun v h'=>∃a6 c6 ds,v=.slice a6 ds.length c6/\tB.O h' (.slice a2 ys.length c2) ys/\tB.O h' (.slice a6 ds.length c6) ds/\ds.length<=100/\okB ds/\qaB h h'):=fun h5 C5 f5=>
  (YU hi C5 hl).mono (by
   rintro _ h6 ⟨ds,hd,O6,N6,C6,f6,hbs6⟩
   obtain⟨a6,c6,rfl⟩:=U1 (tB.OR O6)
   have O5:tB.O h5 (.slice a2 ys.length c2) ys:=tB.Okeep O4 fun y hy=>f5 y (hnb y hy)
   exact⟨a6,c6,ds,rfl,tB.Okeep O5 fun y hy=>f6 y (tB.Oheld O5 (show tB.B _ y from hy)) (hnb y hy),O6,hd,hbs6,C6.sub⟩)
 refine⟨_,rfl,fun ht=>?_,fun ht _=>?_⟩
 ·refine(Dd hi C4 hl 2).mono ?_;rintro _ h5 ⟨q,rfl,q0,q1,C5,f5⟩;have w:IntKind.i64.wrap (IntKind.i64.wrap (9*q)-1)=9*q-1:=by rw[i64_in (9*q) (by omega),i64_in _ (by omega)]
  refine⟨_,rfl,fun _=>?_⟩;rw[w];refine(fin h5 C5 f5).mono ?_;rintro _ h6 ⟨a6,c6,ds,rfl,O6,D6,hd,hbd,s6⟩;exact⟨_,_,_,rfl,_,_,_,_,ys,ds,_,rfl,by omega,hd,O6,D6,s6,hbs,hbd,by omega,by omega⟩
 ·refine(fin h4 C4 (fun _ _=>rfl)).mono ?_;rintro _ h6 ⟨a6,c6,ds,rfl,O6,D6,hd,hbd,s6⟩;exact⟨_,_,_,rfl,_,_,_,_,ys,ds,_,rfl,by omega,hd,O6,D6,s6,hbs,hbd,by omega,by omega⟩
end
end
section
section
def PQ(h:qaA)(a:Option Addr)(c:Nat)(bs:List Int)(X:Rd×List Int)(v:Value)(h':qaA):Prop:=
 ∃(a1:Option Addr) (c1:Nat),v=.tuple #[rdV a c bs X.1,.slice a1 X.2.length c1]/\Part .u8 h' (.slice a1 X.2.length c1) X.2/\qaD h (.slice a1 X.2.length c1)/\qaB h h'
theorem Xp(hi:qaC S h)(hx:zk h .u8 a bs)(L:bs.length<=65536)(r:Rd)(ok:okR bs r)(n:Nat)(hn:n<=65535) :
  zb oPP S Ch #[rdV a c bs r,.int .i64 n] h (PQ h a c bs (byL bs n r [])):=by
 refine Lb (vs:=[.slice a bs.length c,.int .i64 r.i,.int .i64 r.k,.int .i64 n]) ⟨rfl,rfl,rfl,rfl,trivial⟩ hi ?_;simp only[Gg,Tr.wp,z8,Ex.ev,coerce,toInt_int,za,zd,zi,ze,xu,zB,arith,Cst.val,SV.den,zq,zK,zz,zm,zl,zw,zY,vF,vG,vA,vB,vC,vT,vO,vD,vE,vJ,vI,vK,uB,uF,uE,uJ,vY,vL];intro b0 hb0;have e0:(#[]:Array Value)=ints .u8 []:=rfl;rw[e0];refine⟨fun us h'=>∃(j:Nat) (r':Rd) (acc:List Int) (a1:Option Addr) (c1:Nat),us=[.slice a1 acc.length c1,.int .i64 j,.slice a bs.length c,.int .i64 r'.i,.int .i64 r'.k]/\j<=n/\acc.length<=j/\okR bs r'/\Part .u8 h' (.slice a1 acc.length c1) acc/\qaD h (.slice a1 acc.length c1)/\qaB h h'/\byL bs (n-j) r' acc=byL bs n r [],
  fun us _=>n-(toInt (us.getD 1 undef)).toNat,⟨0,r,[],_,_,rfl,by omega,by simp,ok,(Own.made (k:=.u8) (h:=h) (b:=b0) (T:=5) []).part,New.of hb0,Sub.zx hb0,rfl⟩,?_⟩
 rintro a1 l1 c1 x0 b1 m1 d1 x1 x2 h' ⟨j,r',acc,a1',c1',hx1,hj,hacc,ok',P,N,s,e⟩;simp only[uQ,uT,pA,pL,uA]at hx1;obtain⟨⟨rfl,rfl,rfl⟩,rfl,⟨rfl,rfl,rfl⟩,rfl,rfl⟩:=hx1;refine⟨fun hlt=>?_,fun hge=>?_⟩
 ·simp only[uH,vO,uP]at hlt;obtain⟨hlt,hk⟩:=hlt;have hjn:j<n:=by omega
  have en:n-j=n-(j+1)+1:=by omega
  rw[en,byL,vP hk]at e;refine(yA (hi.sub s) (hx.sub s) (by omega) r' ok' 8).mono ?_;rintro _ h2 ⟨rfl,rfl⟩;have nm:=yl (bs:=bs) (n:=8) (r:=r');have e8:(2:Int)^8=256:=by decide
  rw[e8]at nm;have w2:IntKind.i64.wrap ((j:Int)+1)=((j+1:Nat):Int):=z9;refine⟨_,_,_,_,_,_,rfl,fun hz=>?_,fun hz=>?_⟩
  ·have hz:(tk bs 8 r').1.k=0:=by simpa using hz
   rw[vP hz]at e;have wb:IntKind.u8.wrap (tk bs 8 r').2=(tk bs 8 r').2:=by rw[pG];omega
   intro b1 hb1;rw[wb,w2];have s1:qaB h2 (upd h2 b1 (.cells (ints .u8 [(tk bs 8 r').2]) 5)):=Sub.zx hb1;refine zI (ys:=[(tk bs 8 r').2]) hi (s.trans s1) (P.sub s1) N (zk.new) (by simp only[uD];omega) fun v' h3 o n3 s4 _ _=>?_
   obtain⟨a4,c4,rfl,_,_⟩:=o.ints;simp only[ze,zd,zi];intro _;refine⟨⟨j+1,(tk bs 8 r').1,_,a4,c4,rfl,by omega,by rw[vR,uD];omega,yp ok',o,n3,s4,e⟩,by simp only[vB,vA,toInt_int];omega⟩
  ·have hz:(tk bs 8 r').1.k≠0:=by simpa using hz
   rw[vM hz]at e;rw[w2];intro _;refine⟨⟨j+1,(tk bs 8 r').1,acc,a1,c1,rfl,by omega,by omega,yp ok',P,N,s,by rw[OA hz];exact e⟩,by simp only[vB,vA,toInt_int];omega⟩
 ·have e2:byL bs (n-j) r' acc=(r',acc):=by
   by_cases hk:r'.k=0
   ·have:n-j=0:=by
     by_cases hh:j<n
     ·exfalso;have h1:(j:Int)<n:=by omega
      simp[h1,hk]at hge
     ·omega
    rw[this];rfl
   ·exact OA hk
  rw[e2]at e;rw[<-e];exact⟨_,_,rfl,P,N,s⟩
theorem Sr(hi:qaC S h)(hx:zk h .u8 a bs)(L:bs.length<=65536)(r:Rd)(ok:okR bs r) :
  zb oPP S AM #[rdV a c bs r] h (PQ h a c bs (txL bs (bs.length+1) r [])):=by
 refine M7 (vs:=[.slice a bs.length c,.int .i64 r.i,.int .i64 r.k]) ⟨rfl,rfl,rfl,trivial⟩ hi ?_;simp only[HQ,Tr.wp,z8,Ex.ev,coerce,toInt_int,za,zd,zi,ze,zB,Cst.val,SV.den,zq,zK,zz,zm,zl,zw,zY,vF,vG,vA,vB,vC,vD,vE,vJ,vI,vK,uB,uF,uE,uJ,vY,vL];intro b0 hb0;have e0:(#[]:Array Value)=ints .u8 []:=rfl;rw[e0];refine⟨fun us h'=>∃(f:Nat) (r':Rd) (acc:List Int) (a1:Option Addr) (c1:Nat),us=[.slice a1 acc.length c1,.slice a bs.length c,.int .i64 r'.i,.int .i64 r'.k]/\f+acc.length=bs.length+1/\okR bs r'/\(r'.k=0->8*(acc.length:Int)<=r'.i)/\Part .u8 h' (.slice a1 acc.length c1) acc/\qaD h (.slice a1 acc.length c1)/\qaB h h'/\txL bs f r' acc=txL bs (bs.length+1) r [],
  fun us _=>bs.length+1-slL (us.getD 0 undef),⟨bs.length+1,r,[],_,_,rfl,rfl,ok,fun hk=>by simpa using (ok hk).1,(Own.made (k:=.u8) (h:=h) (b:=b0) (T:=5) []).part,New.of hb0,Sub.zx hb0,rfl⟩,?_⟩
 rintro a1 l1 c1 b1 m1 d1 x1 x2 h' ⟨f,r',acc,a1',c1',hx1,hf,ok',hri,P,N,s,e⟩;simp only[uQ,uT,pA,pL,uA]at hx1;obtain⟨⟨rfl,rfl,rfl⟩,⟨rfl,rfl,rfl⟩,rfl,rfl⟩:=hx1;refine⟨fun hk=>?_,fun hk=>?_⟩
 ·have hk:r'.k=0:=by simpa using hk
  have okk:=ok' hk;have hri:=hri hk;obtain⟨f1,rfl⟩:∃f1,f=f1+1:=⟨f-1,by omega⟩;rw[txL,vP hk]at e;refine(yA (hi.sub s) (hx.sub s) (by omega) r' ok' 8).mono ?_;rintro _ h2 ⟨rfl,rfl⟩;have nm:=yl (bs:=bs) (n:=8) (r:=r');have e8:(2:Int)^8=256:=by decide
  rw[e8]at nm;refine⟨_,_,_,_,_,_,rfl,fun hz=>?_,fun hz=>?_⟩
  ·have hz:(tk bs 8 r').2=0:=by simpa using hz
   rw[vP hz]at e;rw[<-e];exact⟨_,_,rfl,P,N,s⟩
  ·have hz:(tk bs 8 r').2≠0:=by simpa using hz
   rw[vM hz]at e;have hk1:(tk bs 8 r').1.k=0:=by
    by_cases g:(tk bs 8 r').1.k=0
    ·exact g
    ·exact absurd (Tz g) hz
   have ta:=CX (bs:=bs) hk1;have ok1:=yp (n:=8) ok';have wb:IntKind.u8.wrap (tk bs 8 r').2=(tk bs 8 r').2:=by rw[pG];omega
   intro b1 hb1;rw[wb];have s1:qaB h2 (upd h2 b1 (.cells (ints .u8 [(tk bs 8 r').2]) 5)):=Sub.zx hb1;refine zI (ys:=[(tk bs 8 r').2]) hi (s.trans s1) (P.sub s1) N (zk.new) (by simp only[uD];omega) fun v' h3 o n3 s4 _ _=>?_
   obtain⟨a4,c4,rfl,_,_⟩:=o.ints;simp only[ze,zd,zi];have:=(ok1 hk1).2;exact⟨⟨f1,(tk bs 8 r').1,_,a4,c4,rfl,by rw[vR,uD];omega,ok1,fun _=>by rw[vR,uD];omega,o,n3,s4,e⟩,by simp only[vA,zd,vR,uD];omega⟩
 ·have hk:r'.k≠0:=by simpa using hk
  rw[O9 hk]at e;rw[<-e];exact⟨_,_,rfl,P,N,s⟩
end
end
variable {h2:qaA}{a4 a5 a6:Option Addr}{c4:Nat}
section
section
def PN(h h':qaA)(u:Value)(x:List Int):Prop:=Part .u8 h' u x/\qaD h u
theorem PN.sub{u:Value}{x:List Int}(H:PN h h1 u x)(s:qaB h1 h2):PN h h2 u x:=⟨H.1.sub s,H.2⟩
def PHq(h:qaA)(a:Option Addr)(c:Nat)(bs:List Int)(r:Rd)(v:Value)(h':qaA):Prop:=
 ∃(a4 a5 a6:Option Addr) (c4 c5 c6:Nat),v=.tuple #[rdV a c bs (gHd bs r),.agg #[.int .i64 (gFl bs r),.int .i64 (gMt bs r).2,.int .i64 (gXf bs r).2,.int .i64 (gOs bs r).2,.slice a4 (gEx bs r).2.length c4,.slice a5 (gNa bs r).2.length c5,.slice a6 (gCo bs r).2.length c6,.int .i64 0]] /\
  PN h h' (.slice a4 (gEx bs r).2.length c4) (gEx bs r).2/\PN h h' (.slice a5 (gNa bs r).2.length c5) (gNa bs r).2/\PN h h' (.slice a6 (gCo bs r).2.length c6) (gCo bs r).2/\qaB h h'
theorem zaQ:le2 r (gCo bs r).1:=by
 have a0:le2 r (tk bs 8 r).1:=y7;have a1:le2 (tk bs 8 r).1 (gh1 bs r):=xP;have a2:le2 (gh1 bs r) (gh2 bs r):=y7.trans xP;have a3:le2 (gh2 bs r) (gh3 bs r):=y7.trans xP;have a4:le2 (gh3 bs r) (gh4 bs r):=y7.trans xP;have a5:le2 (gh4 bs r) (gOs bs r).1:=(y7.trans y7).trans y7;have e1:le2 (gOs bs r).1 (gEx bs r).1:=by unfold gEx;split;exact y7.trans Nr;exact fun h=>⟨h,by simp⟩
 have e2:le2 (gEx bs r).1 (gNa bs r).1:=by unfold gNa;split;exact G7;exact fun h=>⟨h,by simp⟩
 have e3:le2 (gNa bs r).1 (gCo bs r).1:=by unfold gCo;split;exact G7;exact fun h=>⟨h,by simp⟩
 exact(((((((a0.trans a1).trans a2).trans a3).trans a4).trans a5).trans e1).trans e2).trans e3
theorem Q6{n k:Int}(h0:0<=n)(h1:n<256)(hk:k=2\/k=4\/k=8\/k=16):(IntKind.i64.wrap (n.tdiv k)).tmod 2=n/k%2:=by
 rcases hk with rfl | rfl | rfl | rfl <;> rw[uL h0,i64_in _ (by omega),uG (by omega)]
theorem Zy(hi:qaC S h)(s:qaB h h1)(hx:zk h .u8 a bs)(hb:okB bs)(hc:bs.length<=c)(L:bs.length<=65536)(ok:okR bs r){c4 c5 c6:Nat}(P4:PN h h1 (.slice a4 (gEx bs r).2.length c4) (gEx bs r).2)(P5:PN h h1 (.slice a5 (gNa bs r).2.length c5) (gNa bs r).2)(P6:PN h h1 (.slice a6 (gCo bs r).2.length c6) (gCo bs r).2)
  (e3 e4 e5 e6 e7 e8 e9 e10 e11 e12 e13 e14 e15 e16 e17 e18 e19 e20 e21 e22 e23 e24 e25 e26 e28 e29 e30 e31 e32 e33 e35 e36 e37 e39 e40 e41 e43 e44 e45 e46 e48 e49 e50:Value) :
  hq4.wp oPP S yk (PHq h a c bs r) [.slice a bs.length c,.int .i64 r.i,.int .i64 r.k,e3,e4,e5,e6,e7,e8,e9,e10,e11,e12,e13,e14,e15,e16,e17,e18,e19,e20,e21,e22,e23,e24,e25,e26,.int .i64 (gFl bs r),e28,e29,e30,e31,e32,e33,.int .i64 (gMt bs r).2,e35,e36,e37,.int .i64 (gXf bs r).2,e39,e40,e41,.int .i64 (gOs bs r).2,e43,e44,e45,e46,.slice a4 (gEx bs r).2.length c4,e48,e49,e50,.slice a5 (gNa bs r).2.length c5,.slice a bs.length c,.int .i64 (gCo bs r).1.i,.int .i64 (gCo bs r).1.k,.slice a6 (gCo bs r).2.length c6] h1 []:=by
 simp only[hq4,Tr.wp,z8,Ex.ev,coerce,toInt_int,za,zd,zi,ze,xu,qa,wE,zB,arith,Cst.val,SV.den,zq,zK,zz,zm,zl,zw,vF,vG,vA,vB,vC,vO,vD,vE,vJ,vI,vK,uB,uF,uE,uJ,vY,vL];have fn:=G6 (bs:=bs) (r:=r);rw[Q6 fn.1 fn.2 (.inl rfl)];have okC:=RV (bs:=bs) ok;refine⟨fun hc1=>?_,fun hc1=>?_⟩
 ·simp only[uH,vO,uP]at hc1;obtain⟨hf,hk⟩:=hc1;obtain⟨k0,le1⟩:=zaQ hk;have o1:=okC hk;have o0:=ok k0;have w1:IntKind.i64.wrap ((gCo bs r).1.i.tdiv 8)=(gCo bs r).1.i/8:=by rw[uL o1.1,i64_in _ (by omega)]
  have w0:IntKind.i64.wrap (r.i.tdiv 8)=r.i/8:=by rw[uL o0.1,i64_in _ (by omega)]
  rw[w1,w0];refine⟨by omega,by omega,by omega,by omega,?_⟩;obtain⟨a9,e9,g9⟩:=qK (hx.sub s) (lo:=(r.i/8).toNat) (hi:=((gCo bs r).1.i/8).toNat) (m:=c);have eH:(bs.drop (r.i/8).toNat).take (((gCo bs r).1.i/8).toNat-(r.i/8).toNat)=gHb bs r:=by unfold gHb;rw[List.drop_take]
  rw[eH]at e9 g9;rw[e9];have hbH:∀x∈gHb bs r,0<=x/\x<256:=fun x hx=>hb x (lH (gU hx))
  have hlH:(gHb bs r).length<=65536:=by unfold gHb;rw[pM,pW];omega
  refine zb.mono (ju (hi.sub s) 0#32 a9 _ (gHb bs r) g9 hbH (by omega)) ?_;rintro _ h3 ⟨rfl,rfl⟩;refine⟨_,rfl,?_⟩;refine(yA (hi.sub s) (hx.sub s) (by omega) (gCo bs r).1 okC 16).mono ?_;rintro _ h3 ⟨rfl,rfl⟩;refine⟨_,_,_,_,_,_,rfl,?_⟩;have wc:IntKind.i64.wrap (((x8 0#32 (gHb bs r)).toNat:Int).tmod 65536)=k8 (gHb bs r)%65536:=by
   have h0:(0:Int)<=((x8 0#32 (gHb bs r)).toNat:Int):=by omega
   unfold k8;generalize ((x8 0#32 (gHb bs r)).toNat:Int)=z at h0 ⊢;rw[uG h0,i64_in _ (by omega)]
  rw[wc];refine zb.mono (JI (hi.sub s) a c bs (tk bs 16 (gCo bs r).1).1 _) ?_;rintro _ h3 ⟨rfl,rfl⟩;have eD:bdK 4 ((tk bs 16 (gCo bs r).1).2 != k8 (gHb bs r)%65536) (tk bs 16 (gCo bs r).1).1=gHd bs r:=by unfold gHd;rw[vP ⟨hf,hk⟩]
  rw[eD];exact⟨_,_,_,_,_,rfl,fun _=>⟨a4,a5,a6,c4,c5,c6,rfl,P4,P5,P6,s⟩⟩
 ·have eD:gHd bs r=(gCo bs r).1:=by
   unfold gHd;rw[vM];rintro⟨h1,h2⟩;simp[h1,h2]at hc1
  intro _;refine⟨a4,a5,a6,c4,c5,c6,?_,P4,P5,P6,s⟩;rw[eD];rfl
theorem PN.of{u:Value}{x:List Int}(s:qaB h h1)(P:Part .u8 h2 u x)(N:qaD h1 u):PN h h2 u x:=⟨P,fun y hy=>zU s (N y hy)⟩
theorem PN.nil:PN h h1 (.slice none 0 0) []:=⟨Part.nil,fun y hy=>by cases hy⟩
theorem Zz(hi:qaC S h)(s:qaB h h1)(hx:zk h .u8 a bs)(hb:okB bs)(hc:bs.length<=c)(L:bs.length<=65536)(ok:okR bs r){c4 c5:Nat}(P4:PN h h1 (.slice a4 (gEx bs r).2.length c4) (gEx bs r).2)(P5:PN h h1 (.slice a5 (gNa bs r).2.length c5) (gNa bs r).2)
  (e3 e4 e5 e6 e7 e8 e9 e10 e11 e12 e13 e14 e15 e16 e17 e18 e19 e20 e21 e22 e23 e24 e25 e26 e28 e29 e30 e31 e32 e33 e35 e36 e37 e39 e40 e41 e43 e44 e45 e46:Value) :
  hq3.wp oPP S yk (PHq h a c bs r) [.slice a bs.length c,.int .i64 r.i,.int .i64 r.k,e3,e4,e5,e6,e7,e8,e9,e10,e11,e12,e13,e14,e15,e16,e17,e18,e19,e20,e21,e22,e23,e24,e25,e26,.int .i64 (gFl bs r),e28,e29,e30,e31,e32,e33,.int .i64 (gMt bs r).2,e35,e36,e37,.int .i64 (gXf bs r).2,e39,e40,e41,.int .i64 (gOs bs r).2,e43,e44,e45,e46,.slice a4 (gEx bs r).2.length c4,.slice a bs.length c,.int .i64 (gNa bs r).1.i,.int .i64 (gNa bs r).1.k,.slice a5 (gNa bs r).2.length c5] h1 []:=by
 simp only[hq3,Tr.wp,z8,Ex.ev,coerce,toInt_int,za,zd,zi,ze,zB,arith,Cst.val,SV.den,zq,zK,zz,zm,zl,zw,vF,vG,vA,vB,vC,vD,vE,vJ,vI,vK,uB,uF,uE,uJ,vY,vL];have fn:=G6 (bs:=bs) (r:=r);rw[Q6 fn.1 fn.2 (.inr (.inr (.inr rfl)))];have okN:=RU (bs:=bs) ok;refine⟨fun hc1=>?_,fun hc1=>?_⟩
 ·have hc1:gFl bs r/16%2=1:=by simpa using hc1
  intro b1 hb1;have s1:qaB h1 (upd h1 b1 (.cells #[] 5)):=Sub.zx hb1;have st:=s.trans s1;have eC:gCo bs r=txL bs (bs.length+1) (gNa bs r).1 []:=by unfold gCo;rw[vP hc1]
  refine zb.mono (Sr (c:=c) (hi.sub st) (hx.sub st) L (gNa bs r).1 okN) ?_;rintro _ h3 ⟨a6,c6,rfl,P6,N6,s3⟩;rw[<-eC]at P6 N6 ⊢;refine⟨_,_,_,_,_,_,_,_,rfl,fun _=>?_⟩;exact Zy hi (st.trans s3) hx hb hc L ok (P4.sub (s1.trans s3)) (P5.sub (s1.trans s3)) (PN.of st P6 N6) _ _ _ _ _ _ _ _ _ _ _ _ _ _ _ _ _ _ _ _ _ _ _ _ _ _ _ _ _ _ _ _ _ _ _ _ _ _ _ _ _ _ _
 ·have hc1:gFl bs r/16%2≠1:=by simpa using hc1
  intro _;have eC:gCo bs r=((gNa bs r).1,[]):=by unfold gCo;rw[vM hc1]
  have K:=Zy (a6:=none) (c6:=0) hi s hx hb hc L ok P4 P5 (by rw[eC];exact PN.nil);rw[eC]at K;exact K _ _ _ _ _ _ _ _ _ _ _ _ _ _ _ _ _ _ _ _ _ _ _ _ _ _ _ _ _ _ _ _ _ _ _ _ _ _ _ _ _ _ _
theorem Z0(hi:qaC S h)(s:qaB h h1)(hx:zk h .u8 a bs)(hb:okB bs)(hc:bs.length<=c)(L:bs.length<=65536)(ok:okR bs r)(P4:PN h h1 (.slice a4 (gEx bs r).2.length c4) (gEx bs r).2)
  (e3 e4 e5 e6 e7 e8 e9 e10 e11 e12 e13 e14 e15 e16 e17 e18 e19 e20 e21 e22 e23 e24 e25 e26 e28 e29 e30 e31 e32 e33 e35 e36 e37 e39 e40 e41 e43:Value) :
  hq2.wp oPP S yk (PHq h a c bs r) [.slice a bs.length c,.int .i64 r.i,.int .i64 r.k,e3,e4,e5,e6,e7,e8,e9,e10,e11,e12,e13,e14,e15,e16,e17,e18,e19,e20,e21,e22,e23,e24,e25,e26,.int .i64 (gFl bs r),e28,e29,e30,e31,e32,e33,.int .i64 (gMt bs r).2,e35,e36,e37,.int .i64 (gXf bs r).2,e39,e40,e41,.int .i64 (gOs bs r).2,e43,.slice a bs.length c,.int .i64 (gEx bs r).1.i,.int .i64 (gEx bs r).1.k,.slice a4 (gEx bs r).2.length c4] h1 []:=by
 simp only[hq2,Tr.wp,z8,Ex.ev,coerce,toInt_int,za,zd,zi,ze,zB,arith,Cst.val,SV.den,zq,zK,zz,zm,zl,zw,vF,vG,vA,vB,vC,vD,vE,vJ,vI,vK,uB,uF,uE,uJ,vY,vL];have fn:=G6 (bs:=bs) (r:=r);rw[Q6 fn.1 fn.2 (.inr (.inr (.inl rfl)))];have okE:=RR (bs:=bs) ok;refine⟨fun hc1=>?_,fun hc1=>?_⟩
 ·have hc1:gFl bs r/8%2=1:=by simpa using hc1
  intro b1 hb1;have s1:qaB h1 (upd h1 b1 (.cells #[] 5)):=Sub.zx hb1;have st:=s.trans s1;have eC:gNa bs r=txL bs (bs.length+1) (gEx bs r).1 []:=by unfold gNa;rw[vP hc1]
  refine zb.mono (Sr (c:=c) (hi.sub st) (hx.sub st) L (gEx bs r).1 okE) ?_;rintro _ h3 ⟨a6,c6,rfl,P6,N6,s3⟩;rw[<-eC]at P6 N6 ⊢;refine⟨_,_,_,_,_,_,_,_,rfl,fun _=>?_⟩;exact Zz hi (st.trans s3) hx hb hc L ok (P4.sub (s1.trans s3)) (PN.of st P6 N6) _ _ _ _ _ _ _ _ _ _ _ _ _ _ _ _ _ _ _ _ _ _ _ _ _ _ _ _ _ _ _ _ _ _ _ _ _ _ _ _
 ·have hc1:gFl bs r/8%2≠1:=by simpa using hc1
  intro _;have eC:gNa bs r=((gEx bs r).1,[]):=by unfold gNa;rw[vM hc1]
  have K:=Zz (a5:=none) (c5:=0) hi s hx hb hc L ok P4 (by rw[eC];exact PN.nil);rw[eC]at K;exact K _ _ _ _ _ _ _ _ _ _ _ _ _ _ _ _ _ _ _ _ _ _ _ _ _ _ _ _ _ _ _ _ _ _ _ _ _ _ _ _
theorem Vg(hi:qaC S h)(hx:zk h .u8 a bs)(hb:okB bs)(hc:bs.length<=c)(L:bs.length<=65536)(ok:okR bs r):zb oPP S Bs #[rdV a c bs r] h (PHq h a c bs r):=by
 refine Kd (vs:=[.slice a bs.length c,.int .i64 r.i,.int .i64 r.k]) ⟨rfl,rfl,rfl,trivial⟩ hi ?_;simp only[Fe,Tr.wp,z8,Ex.ev,coerce,toInt_int,za,zd,zi,ze,zB,arith,Cst.val,SV.den,zq,zK,zz,zm,zl,zw,vF,vG,vA,vB,vC,vD,vE,vJ,vI,vK,uB,uF,uE,uJ,vY,vL];refine(yA (c:=c) hi hx (by omega) r ok 8).mono ?_;rintro _ h3 ⟨rfl,rfl⟩;refine⟨_,_,_,_,_,_,rfl,?_⟩;refine zb.mono (xB hi a c bs (tk bs 8 r).1 _) ?_;rintro _ h3 ⟨rfl,rfl⟩;refine⟨_,_,_,_,_,rfl,?_⟩;have e1:bd ((tk bs 8 r).2 != 31) (tk bs 8 r).1=gh1 bs r:=rfl;rw[e1];refine(yA (c:=c) hi hx (by omega) (gh1 bs r) (WO ok) 8).mono ?_;rintro _ h3 ⟨rfl,rfl⟩;refine⟨_,_,_,_,_,_,rfl,?_⟩;refine zb.mono (xB hi a c bs (tk bs 8 (gh1 bs r)).1 _) ?_;rintro _ h3 ⟨rfl,rfl⟩;refine⟨_,_,_,_,_,rfl,?_⟩;have e2:bd ((tk bs 8 (gh1 bs r)).2 != 139) (tk bs 8 (gh1 bs r)).1=gh2 bs r:=rfl;rw[e2];refine(yA (c:=c) hi hx (by omega) (gh2 bs r) (WQ ok) 8).mono ?_;rintro _ h3 ⟨rfl,rfl⟩;refine⟨_,_,_,_,_,_,rfl,?_⟩;refine zb.mono (xB hi a c bs (tk bs 8 (gh2 bs r)).1 _) ?_;rintro _ h3 ⟨rfl,rfl⟩;refine⟨_,_,_,_,_,rfl,?_⟩;have e3:bd ((tk bs 8 (gh2 bs r)).2 != 8) (tk bs 8 (gh2 bs r)).1=gh3 bs r:=rfl;rw[e3];refine(yA (c:=c) hi hx (by omega) (gh3 bs r) (WR ok) 8).mono ?_;rintro _ h3 ⟨rfl,rfl⟩;refine⟨_,_,_,_,_,_,rfl,?_⟩;refine zb.mono (xB hi a c bs (tk bs 8 (gh3 bs r)).1 _) ?_;rintro _ h3 ⟨rfl,rfl⟩;refine⟨_,_,_,_,_,rfl,?_⟩;have e4:bd (decide ((tk bs 8 (gh3 bs r)).2>31)) (tk bs 8 (gh3 bs r)).1=gh4 bs r:=rfl;rw[e4];refine(yA (c:=c) hi hx (by omega) (gh4 bs r) (WT ok) 32).mono ?_;rintro _ h3 ⟨rfl,rfl⟩;refine⟨_,_,_,_,_,_,rfl,?_⟩;refine(yA (c:=c) hi hx (by omega) (gMt bs r).1 (WU ok) 8).mono ?_;rintro _ h3 ⟨rfl,rfl⟩;refine⟨_,_,_,_,_,_,rfl,?_⟩;refine(yA (c:=c) hi hx (by omega) (gXf bs r).1 (WV ok) 8).mono ?_;rintro _ h3 ⟨rfl,rfl⟩;refine⟨_,_,_,_,_,_,rfl,?_⟩;have e5:(tk bs 8 (gh3 bs r)).2=gFl bs r:=rfl;have fn:=G6 (bs:=bs) (r:=r);rw[e5,Q6 fn.1 fn.2 (.inr (.inl rfl))];refine⟨fun hc1=>?_,fun hc1=>?_⟩
 ·have hc1:gFl bs r/4%2=1:=by simpa using hc1
  have eO:tk bs 8 (gXf bs r).1=gOs bs r:=rfl;rw[eO];refine(yA (c:=c) hi hx (by omega) (gOs bs r).1 (Nn ok) 16).mono ?_;rintro _ h4 ⟨rfl,rfl⟩;refine⟨_,_,_,_,_,_,rfl,?_⟩;intro b1 hb1;have nm:=yl (bs:=bs) (n:=16) (r:=(gOs bs r).1);obtain⟨n,hn⟩:=vZ nm.1;have e16:(2:Int)^16=65536:=by decide
  rw[hn,e16]at nm;have eE:gEx bs r=byL bs n (tk bs 16 (gOs bs r).1).1 []:=by unfold gEx;rw[vP hc1,hn];rfl
  rw[hn];have s1:qaB h4 (upd h4 b1 (.cells #[] 5)):=Sub.zx hb1;refine zb.mono (Xp (c:=c) (hi.sub s1) (hx.sub s1) L (tk bs 16 (gOs bs r).1).1 (yp (Nn ok)) n (by omega)) ?_;rintro _ h5 ⟨a6,c6,rfl,P6,N6,s3⟩;rw[<-eE]at P6 N6 ⊢;refine⟨_,_,_,_,_,_,_,_,rfl,fun _=>?_⟩;exact Z0 hi (s1.trans s3) hx hb hc L ok (PN.of s1 P6 N6) _ _ _ _ _ _ _ _ _ _ _ _ _ _ _ _ _ _ _ _ _ _ _ _ _ _ _ _ _ _ _ _ _ _ _ _ _
 ·have hc1:gFl bs r/4%2≠1:=by simpa using hc1
  have eO:tk bs 8 (gXf bs r).1=gOs bs r:=rfl;rw[eO];intro _;have eE:gEx bs r=((gOs bs r).1,[]):=by unfold gEx;rw[vM hc1]
  have K:=Z0 (a4:=none) (c4:=0) hi (fun _ _ e=>e) hx hb hc L ok (by rw[eE];exact PN.nil);rw[eE]at K;exact K _ _ _ _ _ _ _ _ _ _ _ _ _ _ _ _ _ _ _ _ _ _ _ _ _ _ _ _ _ _ _ _ _ _ _ _ _
end
end
section
section
theorem Vh(s:qaB h1 h2)(g:h1 y≠none):h2 y=h1 y:=by
 cases e:h1 y with
 | none=>exact absurd e g
 | some o=>exact s y o e
theorem g_spec_Gzip'(hi:qaC S h)(O:tB.O h v bs)(hb:okB bs)(L:jI bs):zb oPP S F3 #[v] h (PGz h (kF bs)):=by
 obtain⟨a,c,rfl,hc,hx⟩:=Part.ints O;have hL:bs.length<=1048576:=L;refine Qa (vs:=[.slice a bs.length c]) ⟨rfl,trivial⟩ hi ?_;simp only[Ky,Tr.wp,z8,Ex.ev,coerce,toInt_int,za,zd,zi,ze,xu,j7,kp,zB,arith,Cst.val,SV.den,zq,zK,zz,zm,zl,zw,zY,vF,vG,vA,vB,vC,vT,vO,vU,vD,vE,vJ,vI,vK,uB,uF,uE,uJ,vY,vL];refine⟨fun hgt=>?_,fun hle=>?_⟩
 ·have e:kF bs=(7,[],[],0):=vP (by omega);rw[e];exact⟨none,0,.slice none 0 0,[],rfl,Part.nil,fun y hy=>(by cases hy),qg.nil,fun y hy=>(by cases hy),trivial,fun _ _ e=>e⟩
 have hle:bs.length<=65536:=by omega
 refine⟨fun us h'=>∃(f:Nat) (r:Rd) (xs:List Int) (ms:List GM) (ao:Option Addr) (co:Nat) (vm:Value) (usl:List (Value×Value×Value)),us=[.slice ao xs.length co,vm,.slice a bs.length c,.int .i64 r.i,.int .i64 r.k]/\okR bs r/\(r.k=0->8*(bs.length:Int)+16<=r.i+8*f)/\(r.k=0->8*(ms.length:Int)<=r.i)/\xs.length<=100000 /\
   Part .u8 h' (.slice ao xs.length co) xs/\qaD h (.slice ao xs.length co)/\qg 8 h' vm ms.length (BQ ms usl)/\qaD h vm/\(∀y,zf vm=some y->zf (.slice ao xs.length co)≠some y)/\OGs h' (fun y=>h y=none/\zf (.slice ao xs.length co)≠some y/\zf vm≠some y) ms usl/\qaB h h'/\gZ bs f r xs ms=qf bs,
  fun us _=>if toInt (us.getD 4 undef)=0 then 8*bs.length+1-(toInt (us.getD 3 undef)).toNat else 0,
  ⟨bs.length+2,⟨0,0⟩,[],[],none,0,.slice none 0 0,[],rfl,fun _=>⟨nR _,by simp only;omega⟩,fun _=>by simp only;omega,fun _=>by simp,by simp,Part.nil,fun y hy=>(by cases hy),qg.nil,fun y hy=>(by cases hy),fun y hy=>(by cases hy),trivial,fun _ _ e=>e,rfl⟩,?_⟩
 rintro a1 l1 c1 a2 l2 c2 a3 l3 c3 x1 x2 h' ⟨f,r,xs,ms,ao,co,vm,usl,hx1,ok,hf,hml,hxl,P,N,Ow,Nv,vN,OG,s,e⟩;simp only[uQ,uT,pA,pL,uA]at hx1;obtain⟨⟨rfl,rfl,rfl⟩,rfl,⟨rfl,rfl,rfl⟩,rfl,rfl⟩:=hx1;obtain⟨_,_,ev⟩:=Ow.form;cases ev
 have w8:IntKind.i64.wrap (8*(bs.length:Int))=8*(bs.length:Int):=i64_in _ (by omega);rw[w8];have hms:((ms.length:Int)==0)=decide (ms=[]):=by cases ms <;> simp <;> omega
 rw[hms];refine⟨fun hgo=>?_,fun hst=>?_⟩
 ·simp only[uH,pJ,vO,uP]at hgo;obtain⟨hk,hcd⟩:=hgo;have ok0:=ok hk;have hf0:=hf hk;have hml0:=hml hk;obtain⟨f1,rfl⟩:∃f1,f=f1+1:=⟨f-1,by omega⟩;rw[gZ,vP ⟨hk,hcd⟩]at e;refine zb.mono (Vg (hi.sub s) (hx.sub s) hb hc hle ok) ?_;rintro _ h1 ⟨a4,a5,a6,c4,c5,c6,rfl,P4,P5,P6,s1⟩;refine⟨_,_,_,_,_,_,_,_,_,_,_,_,_,_,_,_,_,_,_,rfl,?_⟩;intro b1 hb1;have e0':(#[]:Array Value)=ints .u8 []:=rfl;rw[e0'];have s2:qaB h1 (upd h1 b1 (.cells (ints .u8 []) 5)):=Sub.zx hb1;have HN:zk (upd h1 b1 (.cells (ints .u8 []) 5)) .u8 (some ⟨b1,0,none⟩) []:=zk.new;generalize upd h1 b1 (.cells (ints .u8 []) 5)=H1 at s2 HN ⊢;have wr:IntKind.i64.wrap (100000-(xs.length:Int))=((100000-xs.length:Nat):Int):=z9;rw[wr];have sH:qaB h H1:=s.trans (s1.trans s2);have i1:=hi.sub sH;refine(Pl i1 (some ⟨b1,0,none⟩) 0 [] 32768 (100000-xs.length) (by simp) (by simp) (by omega) HN).mono ?_;rintro _ h2 ⟨a7,c7,rfl,P7,N7,s3⟩;have eL:zZ 32768 ([]:List Int)=[]:=by simp[zZ]
  rw[eL]at P7 N7 ⊢;refine⟨_,_,_,_,_,_,rfl,?_⟩;have K:=ML (c:=c3) (dl:=0) (sz:=32768) (room:=100000-xs.length) i1 s3 (hx.sub sH) (by omega) (gHd bs r) (No ok) P7 N7 (lE _) (by simp) (by omega) (by omega) (by omega) (8*bs.length+1) (uN _) (8*bs.length+1) (uN _);refine zb.mono K ?_;rintro _ h3 ⟨a8,c8,rfl,P8,N8,s4⟩;have eF:blF bs 0 (100000-xs.length) 32768 (8*bs.length+1) (8*bs.length+1) (gHd bs r) []=gSt bs xs.length r:=rfl;have okS:okR bs (gSt bs xs.length r).1:=MM (No ok);have hDl:=(JF (bs:=bs) (dl:=0) (room:=100000-xs.length) (sz:=32768) (F:=8*bs.length+1) (f:=8*bs.length+1) (r:=gHd bs r) (al:=[]) (uN _) (by simp)).2;have hDb:okB (gSt bs xs.length r).2:=Gu JJ;rw[eF]at P8 N8 hDl ⊢;refine⟨_,_,_,_,_,_,_,_,_,_,_,rfl,?_⟩;refine zb.mono (Tu (dl:=0) (sz:=32768) (room:=100000-xs.length) i1 s4 P8 (lE _)) ?_;rintro v5 h5 ⟨P9,N9,s5⟩;rw[List.drop_zero]at P9;obtain⟨a9,c9,rfl,hc9,g9⟩:=P9.ints;refine⟨_,_,_,rfl,?_⟩;have s15:qaB h' h5:=s1.trans (s2.trans s5);refine zI hi (s.trans s15) (P.sub s15) N g9 (by omega) fun v6 h6 o6 n6 s6 k6 r6=>?_
  obtain⟨a10,c10,rfl,_,_⟩:=o6.ints;simp only[ze,zd,zi];refine zb.mono (K9 (hi.sub s6) a3 c3 (show bs.length<=1048576 by omega) (gSt bs xs.length r).1 okS) ?_;rintro _ hq ⟨rfl,rfl⟩;refine⟨_,_,_,_,_,rfl,?_⟩;refine(yA (c:=c3) (hi.sub s6) (hx.sub s6) (by omega) (alg (gSt bs xs.length r).1) (BK okS) 32).mono ?_;rintro _ hq ⟨rfl,rfl⟩;refine⟨_,_,_,_,_,_,rfl,?_⟩;have P9':Part .u8 hq (.slice a9 (gSt bs xs.length r).2.length c9) (gSt bs xs.length r).2:=P9.keep fun y hy=>k6 y (P9.held y hy) fun g=>P.held y g (zU (s1.trans s2) (N9 y hy))
  obtain⟨_,_,e9,_,g9'⟩:=P9'.ints;cases e9
  refine zb.mono (ju (hi.sub s6) 0#32 a9 c9 (gSt bs xs.length r).2 g9' hDb (by omega)) ?_;rintro _ hq2 ⟨rfl,rfl⟩;refine⟨_,rfl,?_⟩;have wc:IntKind.i64.wrap ((x8 0#32 (gSt bs xs.length r).2).toNat:Int)=k8 (gSt bs xs.length r).2:=by
   have h1:=(x8 0#32 (gSt bs xs.length r).2).isLt;unfold k8;exact i64_in _ (by omega)
  rw[wc];refine zb.mono (JI (hi.sub s6) a3 c3 bs (tk bs 32 (alg (gSt bs xs.length r).1)).1 _) ?_;rintro _ hq2 ⟨rfl,rfl⟩;have eC1:bdK 4 ((tk bs 32 (alg (gSt bs xs.length r).1)).2 != k8 (gSt bs xs.length r).2) (tk bs 32 (alg (gSt bs xs.length r).1)).1=gC1 bs xs.length r:=rfl;rw[eC1];have okC1:okR bs (gC1 bs xs.length r):=EI (by decide) (yp (BK okS));refine⟨_,_,_,_,_,rfl,?_⟩;refine(yA (c:=c3) (hi.sub s6) (hx.sub s6) (by omega) (gC1 bs xs.length r) okC1 32).mono ?_;rintro _ hq2 ⟨rfl,rfl⟩;refine⟨_,_,_,_,_,_,rfl,?_⟩;refine zb.mono (JI (hi.sub s6) a3 c3 bs (tk bs 32 (gC1 bs xs.length r)).1 _) ?_;rintro _ hq2 ⟨rfl,rfl⟩;have eC2:bdK 4 ((tk bs 32 (gC1 bs xs.length r)).2 != ((gSt bs xs.length r).2.length:Int)) (tk bs 32 (gC1 bs xs.length r)).1=gC2 bs xs.length r:=rfl;rw[eC2];have okC2:okR bs (gC2 bs xs.length r):=EI (by decide) (yp okC1);have vH:∀y,zf (.slice a2 ms.length c2)=some y->h' y≠none/\hq2 y=h' y:=fun y hy=>by
   have g:=Ow.held y hy;refine⟨g,?_⟩;rw[k6 y (s15.ne y g) (vN y hy)];exact Vh s15 g
  have fr:∀y,h' y≠none->zf (.slice a1 xs.length c1)≠some y->hq2 y=h' y:=fun y g1 g2=>(k6 y (s15.ne y g1) g2).trans (Vh s15 g1)
  have ob:∀y,h5 y≠none->zf (.slice a1 xs.length c1)≠some y->zf (.slice a10 (xs++(gSt bs xs.length r).2).length c10)≠some y:=fun y g1 g2 g3=>by
   rcases r6 with r6 | r6
   ·exact g2 (r6▸g3)
   ·exact g1 (r6 y g3)
  have hDl2:(xs++(gSt bs xs.length r).2).length<=100000:=by rw[vR];omega
  refine⟨_,_,_,_,_,rfl,fun hz=>?_,fun hz=>?_⟩
  ·have hz:(gC2 bs xs.length r).k=0:=by simpa using hz
   rw[vP hz]at e;obtain⟨_,far⟩:=Xn hz;have o2:=okC2 hz;intro b2 hb2;have eC:(Obj.cells #[Value.int .i64 (gFl bs r),Value.int .i64 (gMt bs r).2,Value.int .i64 (gXf bs r).2,Value.int .i64 (gOs bs r).2,.slice a4 (gEx bs r).2.length c4,.slice a5 (gNa bs r).2.length c5,.slice a6 (gCo bs r).2.length c6,Value.int .i64 ((gSt bs xs.length r).2.length:Int)] 28)=.cells (el8 (qA bs xs.length r) (.slice a4 (gEx bs r).2.length c4,.slice a5 (gNa bs r).2.length c5,.slice a6 (gCo bs r).2.length c6)).toArray 28:=rfl;rw[eC];generalize hU:((.slice a4 (gEx bs r).2.length c4,.slice a5 (gNa bs r).2.length c5,.slice a6 (gCo bs r).2.length c6):Value×Value×Value)=U;have t1:qaB hq2 (upd hq2 b2 (.cells (el8 (qA bs xs.length r) U).toArray 28)):=Sub.zx hb2;have kb:∀y,hq2 y≠none->upd hq2 b2 (.cells (el8 (qA bs xs.length r) U).toArray 28) y=hq2 y:=fun y hy=>upd_ne fun e=>hy (e▸hb2)
   have cb:upd hq2 b2 (.cells (el8 (qA bs xs.length r) U).toArray 28) b2=some (.cells (el8 (qA bs xs.length r) U).toArray 28):=upd_same;generalize upd hq2 b2 (.cells (el8 (qA bs xs.length r) U).toArray 28)=hC at t1 kb cb ⊢;refine Pz (S:=S) (h0:=h) (sz:=8) (us:=el8 (qA bs xs.length r) U) hi (s6.trans t1) (Ow.keep fun y hy=>?_) Nv (fun j x hj=>?_) rfl (fun x hx=>?_) rfl (by omega) fun v3 h9 Ow3 Nv3 s9 k3 r3=>?_
   ·obtain⟨g1,g2⟩:=vH y hy;rw[kb y (by rw[g2];exact g1),g2]
   ·rw[y9];simp only[zg,cb,pD];exact hj
   ·rw[<-hU]at hx;simp only[el8,uU,pB,nA]at hx;rcases hx with rfl | rfl | rfl | rfl | rfl | rfl | rfl | rfl <;> exact⟨rfl,fun _ h=>(by cases h),fun _ h=>(by cases h)⟩
   ·obtain⟨a11,c11,rfl⟩:=Ow3.form;simp only[ze,zd,zi];have k2:∀y,hq2 y≠none->zf (.slice a2 ms.length c2)≠some y->h9 y=hq2 y:=fun y g1 g2=>(k3 y (by rw[kb y g1];exact g1) g2).trans (kb y g1)
    have vb:∀y,hq2 y≠none->zf (.slice a2 ms.length c2)≠some y->zf (.slice a11 (ms.length+1) c11)≠some y:=fun y g1 g2 g3=>by
     rcases r3 with r3 | r3
     ·exact g2 (r3▸g3)
     ·have:=r3 y g3;rw[kb y g1]at this;exact g1 this
    have oV:∀y,zf (.slice a10 (xs++(gSt bs xs.length r).2).length c10)=some y->zf (.slice a2 ms.length c2)≠some y:=fun y g1 g2=>ob y (s15.ne y (vH y g2).1) (vN y g2) g1
    have o9:=o6.keep fun y hy=>k2 y (o6.held y hy) (oV y hy)
    have pn:∀ {u:Value} {x:List Int},PN h' h1 u x->Part .u8 h9 u x/\∀y,zf u=some y->h y=none/\zf (.slice a10 (xs++(gSt bs xs.length r).2).length c10)≠some y/\zf (.slice a11 (ms.length+1) c11)≠some y:=fun Pu=>by
     have s25:=s2.trans s5;have q1:∀y,zf _=some y->zf (.slice a1 xs.length c1)≠some y:=fun y hy g=>P.held y g (Pu.2 y hy)
     have q2:∀y,zf _=some y->zf (.slice a2 ms.length c2)≠some y:=fun y hy g=>(vH y g).1 (Pu.2 y hy)
     have q3:∀y,zf _=some y->hq2 y=h1 y:=fun y hy=>(k6 y (s25.ne y (Pu.1.held y hy)) (q1 y hy)).trans (Vh s25 (Pu.1.held y hy))
     have q4:∀y,zf _=some y->hq2 y≠none:=fun y hy=>by rw[q3 y hy];exact Pu.1.held y hy
     exact⟨Pu.1.keep fun y hy=>(k2 y (q4 y hy) (q2 y hy)).trans (q3 y hy),fun y hy=>⟨zU s (Pu.2 y hy),ob y (s25.ne y (Pu.1.held y hy)) (q1 y hy),vb y (q4 y hy) (q2 y hy)⟩⟩
    intro _;refine⟨⟨f1,gC2 bs xs.length r,xs++(gSt bs xs.length r).2,ms++[qA bs xs.length r],a10,c10,.slice a11 (ms.length+1) c11,usl++[U],by simp,okC2,fun _=>by omega,fun _=>by rw[vR,uD];omega,hDl2,o9,n6,?_,Nv3,fun y hy g=>?_,?_,s9,e⟩,?_⟩
    ·rw[vR,uD,Ho OG];exact Ow3
    ·rcases r3 with r3 | r3
     ·exact oV y g (r3▸hy)
     ·have g1:=o6.held y g;have:=r3 y hy;rw[kb y g1]at this;exact g1 this
    ·refine OGs.app ?_ (OG.keep fun y g1 g2=>?_)
     ·rw[<-hU];exact⟨(pn P4).1,(pn P5).1,(pn P6).1,fun y hy=>by
       rcases hy with g | g | g
       ·exact(pn P4).2 y g
       ·exact(pn P5).2 y g
       ·exact(pn P6).2 y g⟩
     ·have g3:=fr y g1 g2.2.1;have g4:hq2 y≠none:=by rw[g3];exact g1
      exact⟨(k2 y g4 g2.2.2).trans g3,g2.1,ob y (s15.ne y g1) g2.2.1,vb y g4 g2.2.2⟩
    ·simp only[vB,vA,toInt_int,hz,hk,uJ];omega
  ·have hz:(gC2 bs xs.length r).k≠0:=by simpa using hz
   rw[vM hz]at e;refine fun _=>⟨⟨f1,gC2 bs xs.length r,xs++(gSt bs xs.length r).2,ms,a10,c10,.slice a2 ms.length c2,usl,rfl,okC2,fun h=>absurd h hz,fun h=>absurd h hz,hDl2,o6,n6,Ow.keep fun y hy=>(vH y hy).2,Nv,fun y hy=>ob y (s15.ne y (vH y hy).1) (vN y hy),OG.keep fun y g1 g2=>⟨fr y g1 g2.2.1,g2.1,ob y (s15.ne y g1) g2.2.1,g2.2.2⟩,s6,e⟩,?_⟩
   simp only[vB,vA,toInt_int,hk,uJ,vM hz];omega
 ·have hcd:¬(r.k=0/\(r.i<8*(bs.length:Int)\/ms=[])):=fun h=>by
   rcases h with⟨h1,h2 | h2⟩ <;> simp[h1,h2]at hst
  rw[G8 hcd]at e;by_cases hk:r.k=0
  ·have eA:kF bs=(1,xs,ms,(bs.length:Int)):=by unfold kF;rw[vM (by omega),<-e,vM (fun h=>h hk)]
   rw[eA,hk];exact⟨a1,c1,_,usl,rfl,P,N,Ow,Nv,OG.keep fun y _ g=>⟨rfl,g.1⟩,s⟩
  ·have eA:kF bs=(r.k,xs,ms,0):=by unfold kF;rw[vM (by omega),<-e,vP hk]
   have ek:(r.k==0)=false:=by simpa using hk
   rw[eA,ek];exact⟨a1,c1,_,usl,rfl,P,N,Ow,Nv,OG.keep fun y _ g=>⟨rfl,g.1⟩,s⟩
end
end
section
theorem Ss(hi:qaC S h){more:List Int}(hx:zk h .u8 a more)(hl:more.length<=1048576)(hw:∀x∈more,0<=x/\x<=255)(i:Nat)(h1:i<=100000:=by omega) :
  zb oPP S A8 #[.slice a more.length c,.int .i64 i] h (fun v h'=>(∃x,v=.int .i64 x/\0<=x/\x<=255)/\h'=h):=by
 refine Qb (vs:=[.slice a more.length c,.int .i64 i]) ⟨rfl,rfl,trivial⟩ hi ?_;simp only[Kz,Tr.wp,Ex.ev,coerce,toInt_int,za,zd,zi,ze,zj,yg,zB,arith,Cst.val,SV.den,zw,zr,vA,vB,vO,vU,vJ,vI,uA];refine⟨fun hlt=>?_,fun hge=>?_⟩
 ·have hi3:i<more.length:=by omega
  obtain⟨g1,g2⟩:=hx.cell (vQ hi3);have hb:=hw _ (pQ hi3);refine⟨by simpa using g2,by omega,hlt,more[i],by simpa[add_add]using g1,?_⟩;rw[i64_in _ (by omega)];exact⟨_,rfl,hb.1,hb.2⟩
 ·rw[i64_in ((i:Int)*47) (by omega),i64_in _ (by omega),uG (by omega)];exact⟨_,rfl,by omega,by omega⟩
end
variable {os:List Int}{c21 c22:Nat}{a21 a22:Option Addr}
section
section
theorem TZ(hi:qaC S h)(H1:zk h .u8 a1 xs)(H2:zk h .u8 a2 ys) :
  zb oPP S jj #[.slice a1 xs.length c1,.slice a2 ys.length c2] h (fun v h'=>(∃e:Bool,v=.bool e)/\h'=h):=by
 refine E3 (vs:=[.slice a1 xs.length c1,.slice a2 ys.length c2]) ⟨rfl,rfl,trivial⟩ hi ?_;simp only[Cj,Tr.wp,Ex.ev,coerce,zd,zi,ze,SV.den,vA,vB,vJ,vI,uA];exact⟨xs,rfl,H1.cells (c:=c1),ys,rfl,H2.cells (c:=c2),_,rfl⟩
end
section
theorem Vi(hi:qaC S h)(G2:zk h .u8 a2 xs)(G21:zk h .u8 a21 os)(hxw:okB xs)(hx:xs.length<=29)
  (hq:K=1->n=1->okB os/\os.length<=2^48/\x8 0#32 os=x8 0#32 xs)(K0 K1 K2:Kt)(e0 e1 e3 e4 e5 e6 e7 e8 e9 e10 e11 e12 e13 e14 e15 e16 e17 e18 e19 e23 e24 e25 e26 e27 e28 e29:Value) :
  fcC.wp oPP S yk (fun v h'=>v=.bool true) [e0,e1,.slice a2 xs.length c2,e3,e4,e5,e6,e7,e8,e9,e10,e11,e12,e13,e14,e15,e16,e17,e18,e19,.int .i64 K,.slice a21 os.length c21,.slice a22 n c22,e23,e24,e25,e26,e27,e28,e29,.bool false] h [K0,K1,K2]:=by
 simp only[fcC,Tr.wp,z8,Ex.ev,coerce,toInt_int,za,zd,zi,ze,j7,zB,Cst.val,SV.den,zq,zK,zz,zm,zl,zw,vF,vG,vA,vB,vC,vT,vD,vE,vJ,vI,vK,vY,vL];refine⟨fun hb=>absurd hb (by simp),fun _=>⟨fun hb=>?_,fun _ _=>trivial⟩⟩;obtain⟨hK,hn⟩:K=1/\n=1:=by simp at hb;omega
 obtain⟨how,ho,hqq⟩:=hq hK hn;refine(TZ hi G21 G2).mono ?_;rintro _ h1 ⟨⟨e,rfl⟩,eq⟩;subst eq;refine⟨_,rfl,fun _=>?_,fun _ _=>trivial⟩;refine(ju hi 0#32 a21 c21 os G21 how ho).mono ?_;rintro _ h2 ⟨rfl,eq⟩;subst eq;refine⟨_,rfl,?_⟩;refine(ju hi 0#32 a2 c2 xs G2 hxw (by omega)).mono ?_;rintro _ h3 ⟨rfl,eq⟩;subst eq;refine⟨_,rfl,fun _=>?_⟩;rw[hqq];simp
theorem zdd(hi:qaC S h){xs ts os:List Int}{J U K:Int}{n c22 nB:Nat}{a2 a5 a18 a21 a22:Option Addr}{c2 c5 c18 c21:Nat}(G2:zk h .u8 a2 xs)(G18:zk h .u8 a18 ts)(G21:zk h .u8 a21 os)(hxw:okB xs)(hx:xs.length<=29)(ht:ts.length<=2^48)
  (hz:J=1->U=(nB:Int)->zX 1 ts=zX 1 xs)(hq:K=1->n=1->okB os/\os.length<=2^48/\x8 0#32 os=x8 0#32 xs)(K0 K1:Kt)(e0 e1 e3 e4 e6 e7 e8 e9 e10 e11 e12 e13 e14 e15 e16 e23 e24 e25 e26:Value) :
  fcB.wp oPP S yk (fun v h'=>v=.bool true) [e0,e1,.slice a2 xs.length c2,e3,e4,.slice a5 nB c5,e6,e7,e8,e9,e10,e11,e12,e13,e14,e15,e16,.int .i64 J,.slice a18 ts.length c18,.int .i64 U,.int .i64 K,.slice a21 os.length c21,.slice a22 n c22,e23,e24,e25,e26,.bool false] h [K0,K1]:=by
 simp only[fcB,Tr.wp,z8,Ex.ev,coerce,toInt_int,za,zd,zi,ze,xu,zB,Cst.val,SV.den,zq,zK,zz,zm,zl,zw,vF,vG,vA,vB,vC,vT,vD,vE,vJ,vI,vK,vY,vL];refine⟨fun hb=>absurd hb (by simp),fun _=>⟨fun hb=>?_,fun _ _=>?_⟩⟩
 ·obtain⟨hJ,hU⟩:J=1/\U=(nB:Int):=by simpa using hb
  have had:=hz hJ hU;refine(TZ hi G18 G2).mono ?_;rintro _ h1 ⟨⟨e,rfl⟩,eq⟩;subst eq;refine⟨_,rfl,fun _=>?_,fun _ _=>Vi hi G2 G21 hxw hx hq ..⟩;refine(xT hi 1 a18 c18 ts G18 ht).mono ?_;rintro _ h2 ⟨rfl,eq⟩;subst eq;refine⟨_,rfl,?_⟩;refine(xT hi 1 a2 c2 xs G2).mono ?_;rintro _ h3 ⟨rfl,eq⟩;subst eq;refine⟨_,rfl,fun _=>?_⟩;rw[had];simp only[bne_self_eq_false];exact Vi hi G2 G21 hxw hx hq ..
 ·exact Vi hi G2 G21 hxw hx hq ..
theorem YV(x y:Int):0<=Go.bits .xor .u8 x y/\Go.bits .xor .u8 x y<256:=by
 show 0<=IntKind.u8.wrap _/\IntKind.u8.wrap _<256;rw[pG];omega
theorem chg(O:Part .u8 h (.slice a B.length c) B)(hs:∀b,zf (.slice a B.length c)=some b->¬S b)(hB:0<B.length)(x0:Int)(q0:0<=x0)(f:Int->Int){K:Int->qaA->Prop}
  (hK:∀h' i y,i<B.length->Part .u8 h' (.slice a B.length c) (B.set i (f y))->(∀b,zf (.slice a B.length c)≠some b->h' b=h b)->K y h') :
  ((B.length:Int) != 0)=true/\(!a.isNone)=true/\0<=x0.tmod B.length/\x0.tmod B.length<B.length/\∃x,zg h (((a.getD default).add ((x0.tmod B.length).toNat*1)).add 0)=some (.int .u8 x) /\
   (!a.isNone)=true/\0<=x0.tmod B.length/\x0.tmod B.length<B.length/\ye S ((a.getD default).add ((x0.tmod B.length).toNat*1)) 0 [.int .u8 (f x)] h (K x):=by
 obtain⟨_,_,e0,_,g⟩:=Part.ints O;cases e0
 have hp:(0:Int)<(B.length:Int):=by omega
 have r0:0<=x0.tmod B.length:=by rw[uG q0];exact Int.emod_nonneg _ (by omega)
 have r1:x0.tmod B.length<B.length:=by rw[uG q0];exact Int.emod_lt_of_pos _ hp
 obtain⟨i,hi'⟩:∃i:Nat,i=(x0.tmod B.length).toNat:=⟨_,rfl⟩;have hiB:i<B.length:=by omega
 obtain⟨g1,g2⟩:=g.cell (vQ hiB);have nn:(!a.isNone)=true:=by simpa using g2
 rw[<-hi'];refine⟨by simp only[fN,ne_eq];omega,nn,r0,r1,B[i],by rw[add_add,pY,uI];exact g1,nn,r0,r1,?_⟩;have P:=Part.put (S:=S) O hs (i:=i) hiB (f B[i]) (K:=K B[i]) fun h' P' k'=>hK h' i _ hiB P' k'
 rw[ze]at P;exact P
end
end
section
theorem Z1(hb:∀b∈bs,0<=b/\b<=1):∀ {k:Nat},okC (pk bs k)
 | 0=>fun y hy=>by cases hy
 | k+1=>by
  have hbit:0<=bs.getD k 0/\bs.getD k 0<=1:=by
   rw[uK];cases hg:bs[k]? with
   | none=>simp
   | some x=>exact hb x (mP hg)
  have hpb:=EF hb (k:=k);have hp7:(2:Int)^(k%8)<=128:=by
   have:k%8<8:=fV _ (by decide);generalize k%8=m at this ⊢
   match m,this with
   | 0,_ | 1,_ | 2,_ | 3,_ | 4,_ | 5,_ | 6,_ | 7,_=>decide
  have ih:=Z1 hb (k:=k);intro y hy;rw[pk]at hy;unfold qX at hy;rcases List.mem_or_eq_of_mem_set hy with h | h
  ·split at h
   ·rcases pO.1 h with h | h
    ·exact ih y h
    ·rw[uO.1 h];omega
   ·exact ih y h
  ·have e:y=xK (pk bs k) k+bs.getD k 0*2^(k%8):=h;rw[e];generalize (2:Int)^(k%8)=q at *;rcases(show bs.getD k 0=0\/bs.getD k 0=1 by omega)with h | h <;> rw[h] <;> omega
theorem zde(hl:xs.length<=29):okC (yf (m0 xs.length) xs):=by
 rw[TX hl];have hfo:okC (zC xs):=by
  unfold zC;split
  ·exact fun y hy=>by cases hy
  ·exact Z1 JA
 have hh:okC (jc (m0 xs.length)):=by
  unfold jc m0;refine(okC.app (fun y hy=>?_) okC.le).app fun y hy=>?_
  ·simp only[uU,pB,nA]at hy;rcases hy with rfl | rfl | rfl | rfl <;> omega
  ·simp only[uU,pB,nA]at hy;rcases hy with rfl | rfl <;> omega
 unfold L6;exact(hh.app hfo).app (okC.le.app okC.le)
theorem zaR(H:okB xs)(i:Nat){y:Int}(hy:0<=y/\y<256):okB (xs.set i y):=fun z hz=>by
 rcases List.mem_or_eq_of_mem_set hz with h | h
 ·exact H z h
 ·rw[h];exact hy
theorem zcq:(xH B ds).2.1.length<=2^48:=by
 unfold xH;split
 ·simp
 ·rw[Xo];unfold zO;rw[pM];have hn:=MW (bs:=B);have:=Lr (bs:=B) (us:=(zD B ds).2) (sz:=zS (zH B).2) (r:=(zD B ds).1) (Qs);omega
section
variable {s:Nat -> Prop}
theorem zdf(hi:qaC (yb oPP s) h1)(G:ErrZ h1)(E:Ds h1){a2 a3 a4 a5 a6:Option Addr}{c2 c3 c4 c5 c6:Nat}{more ys ds:List Int}(hx2:zk h1 .u8 a2 more)(hl2:more.length<=1048576)(hw2:∀x∈more,0<=x/\x<=255)
  (hiy:zk h1 .u8 a3 ys)(hyw:∀y∈ys,0<=y/\y<=255)(hy:ys.length<=29)(D1:tB.O h1 (.slice a4 ds.length c4) ds)(hbd:okB ds)(Ld:jI ds)
  (O5:tB.O h (.slice a5 (yh ys 7 ds).length c5) (yh ys 7 ds))(N5:tB.New h1 (.slice a5 (yh ys 7 ds).length c5))
  (O6:tB.O h (.slice a6 (yf (m0 ys.length) ys).length c6) (yf (m0 ys.length) ys))(N6:tB.New h1 (.slice a6 (yf (m0 ys.length) ys).length c6))
  (d56:∀b,zf (.slice a5 (yh ys 7 ds).length c5)=some b->zf (.slice a6 (yf (m0 ys.length) ys).length c6)≠some b)(s1:qaB h1 h)(K0:Kt)(e0 e3 e7 e8 e9 e10:Value) :
  fcA.wp oPP (yb oPP s) yk (fun v h'=>v=.bool true) [e0,.slice a2 more.length c2,.slice a3 ys.length c3,e3,.slice a4 ds.length c4,.slice a5 (yh ys 7 ds).length c5,.slice a6 (yf (m0 ys.length) ys).length c6,e7,e8,e9,e10,.bool false] h [K0]:=by
 simp only[fcA,Tr.wp,z8,Ex.ev,coerce,toInt_int,za,zd,zi,ze,zj,yg,zB,arith,Cst.val,SV.den,zq,zK,zz,zm,zl,zw,zr,vF,vG,vA,vB,vC,vT,vO,vD,vE,vJ,vI,vK,uE,uA,vY,vL];refine⟨fun hb=>absurd hb (by simp),fun _=>?_⟩;refine(Ss (hi.sub s1) (hx2.sub s1) hl2 hw2 1).mono ?_;rintro _ hq ⟨⟨x1,rfl,p0,p1⟩,eq⟩;subst eq;refine⟨_,rfl,?_⟩;refine(Ss (hi.sub s1) (hx2.sub s1) hl2 hw2 0).mono ?_;rintro _ hq ⟨⟨x0,rfl,q0,q1⟩,eq⟩;subst eq;refine⟨_,rfl,?_⟩;obtain⟨B,hB⟩:∃B,B=yh ys 7 ds:=⟨_,rfl⟩;obtain⟨C,hC⟩:∃C,C=yf (m0 ys.length) ys:=⟨_,rfl⟩;have lz:=fun i y=>UZ (ds:=ds) hy hyw i y
 have lg:=fun i y=>Vf hy hyw i y
 have oC:okB C:=by rw[hC];exact(zde hy).okB
 rw[<-hB]at lz O5 N5 d56 ⊢;rw[<-hC]at lg O6 N6 d56 ⊢;have n5:∀y,h1 y≠none->zf (.slice a5 B.length c5)≠some y:=fun y g e=>g (N5 y e)
 have n6:∀y,h1 y≠none->zf (.slice a6 C.length c6)≠some y:=fun y g e=>g (N6 y e)
 have lB:=lz 0 0;have lC:=lg 0 0;refine chg O5 (fun b hb=>Bo hi (N5 b hb)) (by omega) x0 q0 (fun x=>bits BinOp.xor IntKind.u8 x (IntKind.u8.wrap (IntKind.i64.wrap (1+x1.tmod 255)))) fun h6 i y hiB P5 k5=>?_
 have s6:qaB h1 h6:=fun y o ho=>by rw[k5 y (n5 y (by rw[ho];simp)),s1 y o ho]
 refine(Ss (hi.sub s6) (hx2.sub s6) hl2 hw2 0).mono ?_;rintro _ hq2 ⟨⟨x2,rfl,r0,r1⟩,eq⟩;subst eq;refine⟨_,rfl,?_⟩;have O6':Part .u8 hq2 (.slice a6 C.length c6) C:=Part.keep O6 fun b hb=>k5 b fun e=>d56 b e hb
 refine chg O6' (fun b hb=>Bo hi (N6 b hb)) (by omega) x2 r0 (fun x=>bits BinOp.xor IntKind.u8 x (IntKind.u8.wrap (IntKind.i64.wrap (1+x1.tmod 255)))) fun h7 j z hjC P6 k6=>?_
 have s7:qaB h1 h7:=fun y o ho=>by rw[k6 y (n6 y (by rw[ho];simp)),s6 y o ho]
 have P5':Part .u8 h7 (.slice a5 B.length c5) (B.set i (bits BinOp.xor IntKind.u8 y (IntKind.u8.wrap (IntKind.i64.wrap (1+x1.tmod 255))))):=Part.keep P5 fun b hb=>k6 b (d56 b hb)
 have oC':okB (C.set j (bits BinOp.xor IntKind.u8 z (IntKind.u8.wrap (IntKind.i64.wrap (1+x1.tmod 255))))):=zaR oC j (YV _ _);replace lz:=lz i (bits BinOp.xor IntKind.u8 y (IntKind.u8.wrap (IntKind.i64.wrap (1+x1.tmod 255))));replace lg:=lg j (bits BinOp.xor IntKind.u8 z (IntKind.u8.wrap (IntKind.i64.wrap (1+x1.tmod 255))));have lB':(B.set i (bits BinOp.xor IntKind.u8 y (IntKind.u8.wrap (IntKind.i64.wrap (1+x1.tmod 255))))).length=B.length:=uR;have lC':(C.set j (bits BinOp.xor IntKind.u8 z (IntKind.u8.wrap (IntKind.i64.wrap (1+x1.tmod 255))))).length=C.length:=uR;generalize B.set i (bits BinOp.xor IntKind.u8 y (IntKind.u8.wrap (IntKind.i64.wrap (1+x1.tmod 255))))=B' at P5' lz lB';generalize C.set j (bits BinOp.xor IntKind.u8 z (IntKind.u8.wrap (IntKind.i64.wrap (1+x1.tmod 255))))=C' at P6 lg lC' oC';rw[<-lB']at lz P5' ⊢;rw[<-lC']at lg P6 ⊢;refine zb.mono (g_impl_Zlib' (hi.sub s7) (G.sub s7) (E.sub s7) (show tB.O h7 _ _ from P5') (by show B'.length<=_;omega) (Ty.Cd D1 s7) Ld hbd) ?_;rintro _ h8 ⟨OZ,NZ,s8⟩;obtain⟨u1,rfl,T1⟩:=MT OZ;obtain⟨a18,c18,rfl,_,g18⟩:=Part.ints (show Part .u8 h8 u1 _ from T1);refine⟨_,_,_,_,_,rfl,?_⟩;have s18:=s7.trans s8;refine zb.mono (g_impl_Gzip' (hi.sub s18) (G.s.sub s18) (E.sub s18) (Ty.Cd (A:=tB) P6 s8) oC' (by show C'.length<=_;omega)) ?_;rintro _ h9 ⟨a21,c21,vm,us,rfl,P9,N9,Ow,Nv,OG,s9⟩;obtain⟨a22,c22,rfl⟩:=Ow.form;obtain⟨_,_,e9,_,g21⟩:=P9.ints;cases e9
 refine⟨_,_,_,_,_,_,_,_,rfl,?_⟩;have s19:=s18.trans s9;refine zb.mono (g_spec_Zlib' (hi.sub s19) (Ty.Cd (A:=tB) P5' (s8.trans s9)) (by show B'.length<=_;omega) (Ty.Cd D1 s19) Ld) ?_;rintro _ h10 ⟨OW,NW,s10⟩;obtain⟨u2,rfl,T2⟩:=MT OW;obtain⟨a25,c25,rfl,_,g25⟩:=Part.ints (show Part .u8 h10 u2 _ from T2);refine⟨_,_,_,_,_,rfl,fun _=>?_,fun hne=>by simp at hne⟩;have s20:=s19.trans s10;refine zb.mono (g_spec_Gzip' (hi.sub s20) (Ty.Cd (A:=tB) P6 (s8.trans (s9.trans s10))) oC' (by show C'.length<=_;omega)) ?_;rintro _ h11 ⟨a28,c28,vm2,us2,rfl,P11,N11,Ow2,Nv2,OG2,s11⟩;obtain⟨a29,c29,rfl⟩:=Ow2.form;refine⟨_,_,_,_,_,_,_,_,rfl,fun _=>?_⟩;simp only[bne_self_eq_false];have s0:=s10.trans s11;refine zdd (hi.sub (s20.trans s11)) (hiy.sub (s20.trans s11)) (g18.sub (s9.trans s0)) (g21.sub s0) (fun y hy=>by have:=hyw y hy;omega) hy zcq (fun _ hU=>lz.2.2 hU) (fun hK hn=>?_) ..;obtain⟨_,g2⟩:=Ve (by omega) hK hn;have hc:=lg.2.2 hK hn;rw[g2]at hc ⊢;refine⟨Gu JJ,?_,BitVec.eq_of_toNat_eq (by unfold k8 at hc;omega)⟩;have:=JF (bs:=C') (dl:=0) (room:=100000-0) (sz:=32768) (F:=8*C'.length+1) (f:=8*C'.length+1) (r:=gHd C' ⟨0,0⟩) (al:=[]) (uN _) (by simp);unfold gSt;omega
theorem SM(hi:qaC (yb oPP s) h)(G:ErrZ h)(E:Ds h)(a1:Option Addr)(c1:Nat)(code:List Int)(hx1:zk h .u8 a1 code)(hl1:code.length<=maxLen)(hw1:∀x∈code,(Lit.int .u8 x).wf=true)
  (a2:Option Addr)(c2:Nat)(more:List Int)(hx2:zk h .u8 a2 more)(hl2:more.length<=maxLen)(hw2:∀x∈more,(Lit.int .u8 x).wf=true) :
  zb oPP (yb oPP s) Ef #[.slice a1 code.length c1,.slice a2 more.length c2] h (fun v h'=>v=.bool true):=by
 refine IT (vs:=[.slice a1 code.length c1,.slice a2 more.length c2]) ⟨rfl,rfl,trivial⟩ hi ?_;simp only[E4,Tr.wp,z8,Ex.ev,coerce,toInt_int,za,zd,zi,ze,j7,zB,Cst.val,SV.den,zq,zK,zz,zm,zl,zw,vF,vG,vA,vB,vC,vT,vO,vD,vE,vJ,vI,vK,uB,uF,uE,uJ,vY,vL];refine⟨fun _=>trivial,fun hsm=>?_⟩;have hs1:code.length<=1048576/\more.length<=1048576:=by simp at hsm;omega
 refine(L9 hi hx1 hs1.1).mono ?_;rintro _ h1 ⟨a3,a4,c3,c4,ys,ds,n,rfl,hy,hd,O1,D1,s1,hby,hbd,n0,n1⟩;have hyw:∀y∈ys,0<=y/\y<=255:=fun y hy=>by have:=hby y hy;omega
 have hdw:∀y∈ds,0<=y/\y<=255:=fun y hy=>by have:=hbd y hy;omega
 obtain⟨_,_,ey,hcy,hiy⟩:=Part.ints O1;cases ey
 obtain⟨_,_,ed,hcd,hid⟩:=Part.ints D1;cases ed
 refine⟨_,_,_,_,_,_,_,rfl,?_⟩;have wn:(Lit.int .i64 7).wf=true:=by decide
 have Ly:jI ys:=by show ys.length<=_;omega
 have Ld:jI ds:=by show ds.length<=_;omega
 refine(Kg (hi.sub s1) O1 hyw Ly 7 wn D1 hdw Ld).mono ?_;rintro _ h2 ⟨O2,N2,s2⟩;obtain⟨a5,c5,rfl,hc5,g5⟩:=Part.ints O2;refine⟨_,_,_,rfl,?_⟩;have M0:∀hh,Bh.R hh (.agg #[.int .i64 0,.int .i64 0,.int .i64 0,.int .i64 0,.slice none 0 0,.slice none 0 0,.slice none 0 0,.int .i64 ys.length]) (m0 ys.length):=fun hh=>
  SL (x:=m0 ys.length) ⟨_,_,rfl,fun i x hx=>(by cases hx)⟩ ⟨_,_,rfl,fun i x hx=>(by cases hx)⟩ ⟨_,_,rfl,fun i x hx=>(by cases hx)⟩
 have HM:L4 (m0 ys.length):=⟨fun y hy=>(by cases hy),fun y hy=>(by cases hy),fun y hy=>(by cases hy)⟩;have LM:Dc (m0 ys.length):=⟨lE _,lE _,lE _⟩;refine zb.mono (Ki (hi.sub (s1.trans s2)) (M0 h2) HM LM (Ty.Cd O1 s2) hyw Ly) ?_;rintro _ h3 ⟨O3,N3,s3⟩;obtain⟨a6,c6,rfl,hc6,g6⟩:=Part.ints O3;refine⟨_,_,_,rfl,?_⟩;have s13:=s1.trans (s2.trans s3);refine zb.mono (Kf (hi.sub s13) (Ty.Cd O1 (s2.trans s3)) hyw Ly 7 wn (Ty.Cd D1 (s2.trans s3)) hdw Ld) ?_;rintro _ h4 ⟨O4,N4,s4⟩;obtain⟨a7,c7,rfl,hc7,g7⟩:=Part.ints O4;refine⟨_,_,_,rfl,?_⟩;refine zb.mono (PC (hi.sub (s13.trans s4)) (g5.sub (s3.trans s4)) g7) ?_;rintro _ hq ⟨rfl,eq⟩;subst eq;refine⟨_,rfl,fun _=>?_,fun hne=>by simp at hne⟩;refine zb.mono (Kh (hi.sub (s13.trans s4)) (M0 _) HM LM (Ty.Cd O1 (s2.trans (s3.trans s4))) hyw Ly) ?_;rintro _ h5 ⟨O5,N5,s5⟩;obtain⟨a8,c8,rfl,hc8,g8⟩:=Part.ints O5;refine⟨_,_,_,rfl,?_⟩;refine zb.mono (PC (hi.sub (s13.trans (s4.trans s5))) (g6.sub (s4.trans s5)) g8) ?_;rintro _ hq2 ⟨rfl,eq⟩;subst eq;have hwm:∀x∈more,0<=x/\x<=255:=fun x hx=>by
  have h:=hw2 x hx;have e1:IntKind.u8.min=0:=by rfl
  have e2:IntKind.u8.max=255:=by rfl
  simp[Lit.wf,e1,e2]at h;omega
 have N2ne:∀b,zf (.slice a5 (yh ys 7 ds).length c5)=some b->zf (.slice a6 (yf (m0 ys.length) ys).length c6)≠some b:=fun b hb g=>Ty.Oheld tB O2 (show tB.B _ b from hb) (N3 b g)
 refine⟨_,rfl,fun _=>?_⟩;exact zdf (hi.sub s1) (G.sub s1) (E.sub s1) (hx2.sub s1) hs1.2 hwm hiy hyw hy D1 hbd Ld (Ty.Cd O2 (s3.trans (s4.trans s5))) N2 (Ty.Cd O3 (s4.trans s5)) (fun y hy=>zU s2 (N3 y hy)) N2ne (s2.trans (s3.trans (s4.trans s5))) ..
end
end
end
end Go.Proofs.YtpodkihpnjhamaaGreatDoor
