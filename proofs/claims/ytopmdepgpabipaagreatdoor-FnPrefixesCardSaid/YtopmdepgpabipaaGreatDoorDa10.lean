import Derived.IntWalk
import Derived.Test.YtopmdepgpabipaaGreatDoorDa3
import Derived.Test.YtopmdepgpabipaaGreatDoorDa4
import Derived.Test.YtopmdepgpabipaaGreatDoorDa5
import Derived.Test.YtopmdepgpabipaaGreatDoorDa6
import Derived.Test.YtopmdepgpabipaaGreatDoorDa7
import Derived.Test.YtopmdepgpabipaaGreatDoorDa8
import Derived.Test.YtopmdepgpabipaaGreatDoorDa9
set_option maxRecDepth 100000
set_option maxHeartbeats 8000000
set_option linter.unusedVariables false
set_option linter.unusedSimpArgs false
set_option linter.unusedSectionVars false
namespace Go.Proofs.YtopmdepgpabipaaGreatDoor
open Go Go.Eng Go.IntWalk
section
variable {g h h' h0 h2:qaA}{b c c1 c2 cb d lo m s:Nat}{f:Bool}{i t:Int}{a a1 a2 ab:Option Addr}{bs code ds xs:List Int}{T:TypeId}{S:Shared}
section
structure SySt(h0 h h':qaA)(b:Nat)(T:TypeId)(code:List Int)(a:Option Addr)(c:Nat)(aA:Option Addr)(lA cA:Nat)(csA:List (Nat×Nat))(aB:Option Addr)(lB cB:Nat)(csB:List (Nat×Nat))(ab:Option Addr)(cb:Nat)(bs:List Int):Prop where
 L:GSt .u8 h0 h h' b T code a c (.slice ab bs.length cb) bs
 o:jE bs
 A:CodesAt h' aA lA csA
 B:CodesAt h' aB lB csB
 nA:∀y,zh (.slice aA lA cA)=some y->h' y≠none/\y≠b/\zh (.slice ab bs.length cb)≠some y
 nB:∀y,zh (.slice aB lB cB)=some y->h' y≠none/\y≠b/\zh (.slice ab bs.length cb)≠some y
 hA:257<=lA/\lA<=288
 hB:1<=lB/\lB<=32
section
variable {aA aB : Option Addr}{lA cA lB cB : Nat}{csA csB:List (Nat × Nat)}
theorem SySt.cur(H:zI h0 h b T code a c)(Y:SySt h0 h h' b T code a c aA lA cA csA aB lB cB csB ab cb bs)(C2:zI h0 h2 b T code a c)(f:∀y,y≠b->h2 y=h' y):SySt h0 h h2 b T code a c aA lA cA csA aB lB cB csB ab cb bs:=
 ⟨Y.L.cur H C2 f,Y.o,Y.A.same (c:=cA) fun y hy=>f y (Y.nA y hy).2.1,Y.B.same (c:=cB) fun y hy=>f y (Y.nB y hy).2.1,fun y hy=>(by obtain⟨g1,g2,g3⟩:=Y.nA y hy;exact⟨by rw[f y g2];exact g1,g2,g3⟩),fun y hy=>(by obtain⟨g1,g2,g3⟩:=Y.nB y hy;exact⟨by rw[f y g2];exact g1,g2,g3⟩),Y.hA,Y.hB⟩
theorem BF(hi:qaC S h0)(H:zI h0 h b T code a c)(Y:SySt h0 h h' b T code a c aA lA cA csA aB lB cB csB ab cb bs)(hl:bs.length<=1000000:=by omega){x n:Int}(hx:0<=x/\x<=100000:=by omega)(hn:0<=n/\n<=16:=by omega) :
  zb oPP S yi #[.slice ab bs.length cb,.int .u64 x,.int .i64 n] h' (fun v h2=>∃a2 c2 zs,v=.slice a2 zs.length c2/\zs.length=bs.length+n.toNat/\SySt h0 h h2 b T code a c aA lA cA csA aB lB cB csB a2 c2 zs):=by
 refine(wD hi H Y.L hl Y.o hx hn).mono ?_;rintro _ h2 ⟨a2,c2,zs,rfl,hz,oz,L2,R⟩;have rA:∀y,zh (.slice aA lA cA)=some y->h2 y=h' y/\zh (.slice a2 zs.length c2)≠some y:=fun y hy=>R y (Y.nA y hy).1 (Y.nA y hy).2.2
 have rB:∀y,zh (.slice aB lB cB)=some y->h2 y=h' y/\zh (.slice a2 zs.length c2)≠some y:=fun y hy=>R y (Y.nB y hy).1 (Y.nB y hy).2.2
 exact⟨_,_,zs,rfl,hz,L2,oz,Y.A.same (c:=cA) fun y hy=>(rA y hy).1,Y.B.same (c:=cB) fun y hy=>(rB y hy).1,fun y hy=>⟨by rw[(rA y hy).1];exact(Y.nA y hy).1,(Y.nA y hy).2.1,(rA y hy).2⟩,fun y hy=>⟨by rw[(rB y hy).1];exact(Y.nB y hy).1,(Y.nB y hy).2.1,(rB y hy).2⟩,Y.hA,Y.hB⟩
theorem zaE{p:Prop}[Decidable p]{y:Int}(h0:0<=y)(h1:y<=100000):0<=IntKind.u64.wrap (if p then 0 else y)/\IntKind.u64.wrap (if p then 0 else y)<=100000:=by
 split
 ·rw[u64_in _ (by omega)];omega
 ·rw[u64_in _ (by omega)];omega
def SyK(h0 h:qaA)(b:Nat)(T:TypeId)(code:List Int)(a:Option Addr)(c:Nat)(aA:Option Addr)(lA cA:Nat)(csA:List (Nat×Nat))(aB:Option Addr)(lB cB:Nat)(csB:List (Nat×Nat))(lo m:Nat)(i:Int)(K:Kt):Prop:=
 ∀(a2:Option Addr) (c2:Nat) (h2:qaA) (zs:List Int) (t:Int),SySt h0 h h2 b T code a c aA lA cA csA aB lB cB csB a2 c2 zs->lo<=zs.length->zs.length<=m->K [.slice a2 zs.length c2,.int .i64 t,.int .i64 i] h2
theorem Xp(hi:qaC S h0)(H:zI h0 h b T code a c)(hl:code.length<=1048576)(Y:SySt h0 h h' b T code a c aA lA cA csA aB lB cB csB ab cb bs)(hlo:lo<=bs.length)(hm:bs.length+60<=m)(hm2:m<=900000)(hs:257<=s/\s<=285)(hsl:s<lA)(hd:d<=29)(hdl:d<lB)(K0 K1 K2 K3 K4 K5 K6:Kt)(hK:SyK h0 h b T code a c aA lA cA csA aB lB cB csB lo m (IntKind.i64.wrap (i+1)) K0){Q:Value->qaA->Prop}(e1 e2 e3 e4 e7 e8 e11 e12 e14 e15 e16 e18 e19 e21 e22 e23:Value) :
  sq6.wp oPP S yb Q [.pointer (some ⟨b,0,none⟩),e1,e2,e3,e4,.slice aA lA cA,.slice aB lB cB,e7,e8,.int .i64 t,.int .i64 i,e11,e12,.int .i64 s,e14,e15,e16,.slice ab bs.length cb,e18,e19,.int .i64 d,e21,e22,e23,.int .i64 (yL s).1,.int .i64 (yL s).2,.int .i64 (yW d).1,.int .i64 (yW d).2,.bool f] h' [K0,K1,K2,K3,K4,K5,K6]:=by
 simp only[sq6,Tr.wp,z4,Ex.ev,coerce,toInt_int,za,zc,ze,zd,zf,zx,zM,xg,xL,z9,arith,Cst.val,SV.den,zn,zL,zz,zk,zi,zy,zq,vF,vG,vA,vB,vC,vL,vD,vE,vI,vH,vJ,vW,vV,vK];have hlen:=Mc ⟨s,by omega⟩ hs.1;have hdis:=Md ⟨d,by omega⟩;simp only at hlen hdis;refine⟨fun _=>hK _ _ _ bs _ Y (by omega) (by omega),fun _=>?_⟩;have p1:(2:Nat)^(yL s).2<=2^5:=uW (by decide) hlen.2.2;have p2:(2:Nat)^(yW d).2<=2^13:=uW (by decide) hdis.2.2;have p3:=Nat.pow_pos (n:=(yL s).2) (show 0<2 by decide);have p4:=Nat.pow_pos (n:=(yW d).2) (show 0<2 by decide);refine(jK (hi.sub Y.L.C.sub) ((yL s).2:Int)).mono ?_;rintro _ h1 ⟨rfl,rfl⟩;rw[vN];refine⟨_,rfl,?_⟩;refine(zU hi Y.L.C hl _).mono ?_;rintro _ h2 ⟨x,rfl,x0,x1,C2,f2⟩;have Y2:=Y.cur H C2 f2;refine⟨_,rfl,?_⟩;refine(jK (hi.sub C2.sub) ((yW d).2:Int)).mono ?_;rintro _ h3 ⟨rfl,rfl⟩;rw[vN];refine⟨_,rfl,?_⟩;refine(zU hi C2 hl _).mono ?_;rintro _ h4 ⟨y,rfl,y0,y1,C4,f4⟩;have Y4:=Y2.cur H C4 f4;obtain⟨na,l,w,g1,g2,l15,w15⟩:=Y4.A.get hsl;refine⟨_,rfl,na,by omega,by omega,w,by rw[vN,add_add,uB];exact g2,na,by omega,by omega,l,by rw[vN,add_add,uB];exact g1,?_⟩;refine(BF hi H Y4 (x:=w) (n:=l)).mono ?_;rintro _ h5 ⟨a5,c5,z5,rfl,l5,Y5⟩;refine⟨_,_,_,rfl,?_⟩;have wx:IntKind.u64.wrap x=x:=u64_in _ (by omega);rw[wx];refine(BF hi H Y5 (x:=x) (n:=((yL s).2:Int))).mono ?_;rintro _ h6 ⟨a6,c6,z6,rfl,l6,Y6⟩;obtain⟨nb,l2,w2,g3,g4,l215,w215⟩:=Y6.B.get hdl;refine⟨_,_,_,rfl,nb,by omega,by omega,w2,by rw[vN,add_add,uB];exact g4,nb,by omega,by omega,l2,by rw[vN,add_add,uB];exact g3,?_⟩;refine(BF hi H Y6 (x:=w2) (n:=l2)).mono ?_;rintro _ h7 ⟨a7,c7,z7,rfl,l7,Y7⟩;refine⟨_,_,_,rfl,?_⟩;refine(BF hi H Y7 (by omega) (n:=((yW d).2:Int)) (zaE y0 (by omega))).mono ?_;rintro _ h8 ⟨a8,c8,z8,rfl,l8,Y8⟩;refine⟨_,_,_,rfl,?_⟩;exact hK _ _ _ z8 _ Y8 (by omega) (by omega)
theorem zaF(hi:qaC S h0)(H:zI h0 h b T code a c)(hl:code.length<=1048576)(Y:SySt h0 h h' b T code a c aA lA cA csA aB lB cB csB ab cb bs)(hlo:lo<=bs.length)(hm:bs.length+60<=m)(hm2:m<=900000)(hs:257<=s/\s<=285)(hsl:s<lA)(hdl:d<lB)(K0 K1 K2 K3 K4 K5:Kt)(hK:SyK h0 h b T code a c aA lA cA csA aB lB cB csB lo m (IntKind.i64.wrap (i+1)) K0){Q:Value->qaA->Prop}(e1 e2 e3 e4 e7 e8 e11 e12 e14 e15 e16 e18 e19 e21 e22:Value) :
  sq5.wp oPP S yb Q [.pointer (some ⟨b,0,none⟩),e1,e2,e3,e4,.slice aA lA cA,.slice aB lB cB,e7,e8,.int .i64 t,.int .i64 i,e11,e12,.int .i64 s,e14,e15,e16,.slice ab bs.length cb,e18,e19,.int .i64 d,e21,e22] h' [K0,K1,K2,K3,K4,K5]:=by
 simp only[sq5,Tr.wp,z4,Ex.ev,coerce,toInt_int,za,zc,ze,zd,zf,zx,zM,jA,z9,arith,Cst.val,SV.den,zn,zL,zz,zk,zi,zy,zq,vF,vG,vA,vB,vC,vQ,vL,vR,vD,vE,vI,vH,vJ,uC,uG,uD,vW,uL,vV,vK];obtain⟨nb,l,w,g1,g2,l15,w15⟩:=Y.B.get hdl;refine⟨nb,by omega,by omega,l,by rw[vN,add_add,uB];exact g1,fun _=>hK _ _ _ bs _ Y (by omega) (by omega),fun hne=>?_⟩;have hd:d<=29:=by simp at hne;omega
 refine(KG (hi.sub Y.L.C.sub) s hs.1 hs.2).mono ?_;rintro _ h1 ⟨rfl,rfl⟩;refine⟨_,_,rfl,?_⟩;refine(Pj (hi.sub Y.L.C.sub) d hd).mono ?_;rintro _ h2 ⟨rfl,rfl⟩;refine⟨_,_,rfl,fun _=>?_,fun _ _=>?_⟩
 ·refine(zU hi Y.L.C hl 12).mono ?_;rintro _ h3 ⟨x,rfl,x0,x1,C3,f3⟩;exact⟨_,rfl,fun _=>Xp hi H hl (Y.cur H C3 f3) (by omega) hm hm2 hs hsl hd hdl _ _ _ _ _ _ _ hK _ _ _ _ _ _ _ _ _ _ _ _ _ _ _ _⟩
 ·exact Xp hi H hl Y (by omega) hm hm2 hs hsl hd hdl _ _ _ _ _ _ _ hK _ _ _ _ _ _ _ _ _ _ _ _ _ _ _ _
theorem zaG(hi:qaC S h0)(H:zI h0 h b T code a c)(hl:code.length<=1048576)(Y:SySt h0 h h' b T code a c aA lA cA csA aB lB cB csB ab cb bs)(hlo:lo<=bs.length)(hm:bs.length+60<=m)(hm2:m<=900000)(hs:257<=s/\s<=285)(hsl:s<lA)(K0 K1 K2 K3:Kt)(hK:SyK h0 h b T code a c aA lA cA csA aB lB cB csB lo m (IntKind.i64.wrap (i+1)) K0){Q:Value->qaA->Prop}(e1 e2 e3 e4 e7 e8 e11 e12 e14 e15 e16 e18:Value) :
  sq4.wp oPP S yb Q [.pointer (some ⟨b,0,none⟩),e1,e2,e3,e4,.slice aA lA cA,.slice aB lB cB,e7,e8,.int .i64 t,.int .i64 i,e11,e12,.int .i64 s,e14,e15,e16,.slice ab bs.length cb,e18] h' [K0,K1,K2,K3]:=by
 simp only[sq4,Tr.wp,z4,Ex.ev,coerce,toInt_int,za,zc,ze,zd,zf,zx,zM,z9,arith,Cst.val,SV.den,zn,zL,zz,zk,zi,zy,zV,zq,vF,vG,vA,vB,vC,vQ,vL,vR,vD,vE,vI,vH,vJ,vW,vV,vK];have hB:=Y.hB;refine(zU hi Y.L.C hl _).mono ?_;rintro _ h1 ⟨x,rfl,x0,x1,C1,f1⟩;have Y1:=Y.cur H C1 f1;obtain⟨x,rfl⟩:=vU x0;refine⟨_,rfl,?_⟩;refine⟨fun us h'=>∃d k:Nat,us=[.int .i64 d,.int .i64 k]/\d<lB/\k<=lB/\h'=h1,fun us _=>lB-(toInt (us.getD 1 undef)).toNat,⟨x,0,rfl,by omega,by omega,rfl⟩,?_⟩;rintro y z h2 ⟨d,k,hx1,hd,hk,rfl⟩;simp only[uJ,uP,pF,vW]at hx1;obtain⟨rfl,rfl⟩:=hx1;have fin:∀(K4 K5:Kt) (e19 e21 e22:Value),sq5.wp oPP S yb Q [.pointer (some ⟨b,0,none⟩),e1,e2,e3,e4,.slice aA lA cA,.slice aB lB cB,e7,e8,.int .i64 t,.int .i64 i,e11,e12,.int .i64 s,e14,e15,e16,.slice ab bs.length cb,e18,e19,.int .i64 d,e21,e22] h2 [K0,K1,K2,K3,K4,K5]:=fun K4 K5 e19 e21 e22=>
  zaF hi H hl Y1 (by omega) hm hm2 hs hsl hd _ _ _ _ _ _ hK _ _ _ _ _ _ _ _ _ _ _ _ _ _ _
 obtain⟨nb,l,w,g1,g2,l15,w15⟩:=Y1.B.get hd;refine⟨fun hlt=>?_,fun hge _=>⟨fun e=>e.elim,fun _=>fin _ _ _ _ _⟩⟩;have w1:IntKind.i64.wrap ((d:Int)+1)=((d+1:Nat):Int):=zr;have w2:IntKind.i64.wrap ((k:Int)+1)=((k+1:Nat):Int):=zr;have w3:((d+1:Nat):Int).tmod ((lB:Nat):Int)=(((d+1)%lB:Nat):Int):=by rw[uA (by omega)];exact(Int.natCast_emod _ _).symm
 have hz:(lB:Int)≠0:=by omega
 rw[w1,w2,w3];refine⟨nb,by omega,by omega,l,by rw[vN,add_add,uB];exact g1,fun _=>⟨fun _=>⟨by simpa using hz,⟨_,_,rfl,gF _ (by omega),by omega,rfl⟩,by simp only[vB,vA,toInt_int];omega⟩,fun _=>fin _ _ _ _ _⟩⟩
theorem Xq(hi:qaC S h0)(H:zI h0 h b T code a c)(hl:code.length<=1048576)(Y:SySt h0 h h' b T code a c aA lA cA csA aB lB cB csB ab cb bs)(hlo:lo<=bs.length)(hm:bs.length+60<=m)(hm2:m<=900000)(hsl:s<lA)(K0 K1:Kt)(hK:SyK h0 h b T code a c aA lA cA csA aB lB cB csB lo m (IntKind.i64.wrap (i+1)) K0){Q:Value->qaA->Prop}(e1 e2 e3 e4 e7 e8 e11 e12 e14 e15 e16:Value) :
  sq3.wp oPP S yb Q [.pointer (some ⟨b,0,none⟩),e1,e2,e3,e4,.slice aA lA cA,.slice aB lB cB,e7,e8,.int .i64 t,.int .i64 i,e11,e12,.int .i64 s,e14,e15,e16,.slice ab bs.length cb] h' [K0,K1]:=by
 simp only[sq3,Tr.wp,z4,Ex.ev,coerce,toInt_int,za,zc,ze,zd,zf,zM,jA,z9,arith,Cst.val,SV.den,zn,zL,zz,zk,zi,zy,zq,vF,vG,vA,vB,vC,vL,vR,vD,vE,vI,vH,vJ,vW,vV,vK];have hA:=Y.hA;obtain⟨na,l,w,g1,g2,l15,w15⟩:=Y.A.get hsl;refine⟨na,by omega,by omega,l,by rw[vN,add_add,uB];exact g1,fun _=>hK _ _ _ bs _ Y (by omega) (by omega),fun hne=>⟨fun hlt=>?_,fun hge=>?_⟩⟩
 ·refine⟨na,by omega,by omega,w,by rw[vN,add_add,uB];exact g2,na,by omega,by omega,l,by rw[vN,add_add,uB];exact g1,?_⟩;refine(BF hi H Y (x:=w) (n:=l)).mono ?_;rintro _ h5 ⟨a5,c5,z5,rfl,l5,Y5⟩;exact⟨_,_,_,rfl,hK _ _ _ z5 _ Y5 (by omega) (by omega)⟩
 ·exact zaG hi H hl Y (by omega) hm hm2 (by simp at hne;omega) hsl _ _ _ _ hK _ _ _ _ _ _ _ _ _ _ _ _
theorem SK(hi:qaC S h0)(H:zI h0 h b T code a c)(hl:code.length<=1048576)(Y:SySt h0 h h' b T code a c aA lA cA csA aB lB cB csB ab cb bs)(hlo:lo<=bs.length)(hm:bs.length+80<=m)(hm2:m<=900000)(hsl:s<lA)(K0 K1:Kt)(hK:SyK h0 h b T code a c aA lA cA csA aB lB cB csB lo m (IntKind.i64.wrap (i+1)) K0){Q:Value->qaA->Prop}(e1 e2 e3 e4 e7 e11 e12 e14 e15:Value) :
  sq2.wp oPP S yb Q [.pointer (some ⟨b,0,none⟩),e1,e2,e3,e4,.slice aA lA cA,.slice aB lB cB,e7,.slice ab bs.length cb,.int .i64 t,.int .i64 i,e11,e12,.int .i64 s,e14,e15,.bool f] h' [K0,K1]:=by
 simp only[sq2,Tr.wp,z4,Ex.ev,coerce,toInt_int,za,zc,ze,zd,zf,zM,z9,Cst.val,SV.den,zn,zL,zz,zk,zi,zy,zq,vF,vG,vA,vB,vC,vQ,vL,vD,vE,vI,vH,vJ,vW,vV,vK];have hA:=Y.hA;obtain⟨na,l,w,g1,g2,l15,w15⟩:=Y.A.get hsl;refine⟨fun _=>⟨na,by omega,by omega,w,by rw[vN,add_add,uB];exact g2,na,by omega,by omega,l,by rw[vN,add_add,uB];exact g1,?_⟩,fun _ _=>Xq hi H hl Y (by omega) (by omega) hm2 hsl _ _ hK _ _ _ _ _ _ _ _ _ _ _⟩;refine(BF hi H Y (x:=w) (n:=l)).mono ?_;rintro _ h5 ⟨a5,c5,z5,rfl,l5,Y5⟩;exact⟨_,_,_,rfl,fun _=>Xq hi H hl Y5 (by omega) (by omega) hm2 hsl _ _ hK _ _ _ _ _ _ _ _ _ _ _⟩
theorem Xr(hi:qaC S h0)(H:zI h0 h b T code a c)(hl:code.length<=1048576)(Y:SySt h0 h h' b T code a c aA lA cA csA aB lB cB csB ab cb bs)(hlo:lo<=bs.length)(hm:bs.length+80<=m)(hm2:m<=900000)(hsl:s<lA)(K0 K1:Kt)(hK:SyK h0 h b T code a c aA lA cA csA aB lB cB csB lo m (IntKind.i64.wrap (i+1)) K0){Q:Value->qaA->Prop}(e1 e2 e3 e4 e7 e11 e12:Value) :
  sq1.wp oPP S yb Q [.pointer (some ⟨b,0,none⟩),e1,e2,e3,e4,.slice aA lA cA,.slice aB lB cB,e7,.slice ab bs.length cb,.int .i64 t,.int .i64 i,e11,e12,.int .i64 s] h' [K0,K1]:=by
 simp only[sq1,Tr.wp,z4,Ex.ev,coerce,toInt_int,za,zc,ze,zd,zf,zx,zM,z9,Cst.val,SV.den,zn,zL,zz,zk,zi,zy,zq,vF,vG,vA,vB,vC,vQ,vL,vR,vD,vE,vI,vH,vJ,vW,vV,vK];have hA:=Y.hA;obtain⟨na,l,w,g1,g2,l15,w15⟩:=Y.A.get hsl;refine⟨fun _=>⟨na,by omega,by omega,l,by rw[vN,add_add,uB];exact g1,fun _=>?_,fun _ _=>SK hi H hl Y (by omega) hm hm2 hsl _ _ hK _ _ _ _ _ _ _ _ _⟩,fun _ _=>SK hi H hl Y (by omega) hm hm2 hsl _ _ hK _ _ _ _ _ _ _ _ _⟩;refine(xP hi Y.L.C hl 3).mono ?_;rintro _ h1 ⟨x,rfl,C1,f1⟩;exact⟨_,rfl,fun _=>SK hi H hl (Y.cur H C1 f1) (by omega) hm hm2 hsl _ _ hK _ _ _ _ _ _ _ _ _⟩
end
theorem Lq(hi:qaC S h0)(H:zI h0 h b T code a c)(hl:code.length<=1048576)(B:GSt .u8 h0 h g b T code a c (.slice ab bs.length cb) bs)(o1:jE bs)(hbl:bs.length<=400000)(X:Part .i64 g (.slice a1 xs.length c1) xs)(D:Part .i64 g (.slice a2 ds.length c2) ds)(hx:257<=xs.length/\xs.length<=288)(hd:1<=ds.length/\ds.length<=32)(fx:wU xs)(fd:wU ds)(t:Int) :
  zb oPP S qf #[.pointer (some ⟨b,0,none⟩),.slice ab bs.length cb,.slice a1 xs.length c1,.slice a2 ds.length c2,.int .i64 t] g (fun v h'=>∃a3 c3 zs t2,v=.tuple #[.slice a3 zs.length c3,.int .i64 t2]/\bs.length<=zs.length/\zs.length<=bs.length+2000/\jE zs/\GSt .u8 h0 h h' b T code a c (.slice a3 zs.length c3) zs):=by
 refine E7 (vs:=[.pointer (some ⟨b,0,none⟩),.slice ab bs.length cb,.slice a1 xs.length c1,.slice a2 ds.length c2,.int .i64 t]) ⟨rfl,rfl,rfl,rfl,rfl,trivial⟩ (hi.sub B.C.sub) ?_;rw[AY];simp only[Tr.wp,z4,Ex.ev,coerce,toInt_int,za,zc,ze,zd,zf,zx,zM,z9,arith,Cst.val,SV.den,zn,zL,zz,zk,zi,zy,zV,zq,vF,vG,vA,vB,vC,vQ,vL,vR,vD,vE,vI,vH,vJ,vW,vV,vK];refine zb.mono (xY (hi.sub B.C.sub) (v:=.slice a1 xs.length c1) (xs:=xs) X (show xs.length<=1048576 by omega)) ?_;rintro v h1 ⟨OA,NA,sA⟩;have pA:xp h1 v (y8 xs):=OA;obtain⟨aA,cA,rfl,CA⟩:=B8 pA (HH fx);have B1:=B.sub H sA;refine⟨_,_,_,rfl,?_⟩;refine zb.mono (xY (hi.sub B1.C.sub) (v:=.slice a2 ds.length c2) (xs:=ds) (D.sub sA) (show ds.length<=1048576 by omega)) ?_;rintro v h2 ⟨OB,NB,sB⟩;have pB:xp h2 v (y8 ds):=OB;obtain⟨aB,cB,rfl,CB⟩:=B8 pB (HH fd);have B2:=B1.sub H sB;have Y2:SySt h0 h h2 b T code a c aA xs.length cA (zl xs) aB ds.length cB (zl ds) ab cb bs:=by
  refine⟨B2,o1,CA.sub sB,CB,fun y hy=>⟨?_,fun e=>?_,fun e=>?_⟩,fun y hy=>⟨?_,fun e=>?_,fun e=>?_⟩,hx,hd⟩
  ·rw[sub_eq sB (pA.held y hy)];exact pA.held y hy
  ·have:=NA y hy;rw[e]at this;exact B.C.held this
  ·exact B.P.held y e (NA y hy)
  ·exact pB.held y hy
  ·have:=NB y hy;rw[e]at this;exact B1.C.held this
  ·exact B1.P.held y e (NB y hy)
 refine⟨_,_,_,rfl,?_⟩;refine(zU hi B2.C hl 14).mono ?_;rintro _ h3 ⟨n,rfl,n0,n1,C3,f3⟩;obtain⟨n,rfl⟩:=vU n0;refine⟨_,rfl,?_⟩;refine⟨fun us h'=>∃(a3:Option Addr) (c3 i:Nat) (t2:Int) (zs:List Int),us=[.slice a3 zs.length c3,.int .i64 t2,.int .i64 i]/\i<=n/\bs.length<=zs.length/\zs.length<=bs.length+80*i/\SySt h0 h h' b T code a c aA xs.length cA (zl xs) aB ds.length cB (zl ds) a3 c3 zs,
  fun us _=>n-(toInt (us.getD 2 undef)).toNat,⟨_,_,0,t,bs,rfl,by omega,by omega,by omega,Y2.cur H C3 f3⟩,?_⟩
 rintro a3 l3 c3 x y h4 ⟨a3',c3',i,t2,zs,hx1,hin,hzl,hz,Y⟩;simp only[uJ,uP,uH,pF,vW]at hx1;obtain⟨⟨rfl,rfl,rfl⟩,rfl,rfl⟩:=hx1;refine⟨fun hlt=>?_,fun hge=>?_⟩
 ·have w1:IntKind.i64.wrap ((i:Int)+1)=((i+1:Nat):Int):=zr;refine(zU hi Y.L.C hl _).mono ?_;rintro _ h5 ⟨s,rfl,s0,s1,C5,f5⟩;have Y5:=Y.cur H C5 f5;refine⟨_,rfl,?_⟩;refine(zU hi C5 hl 3).mono ?_;rintro _ h6 ⟨q,rfl,q0,q1,C6,f6⟩;have Y6:=Y5.cur H C6 f6;refine⟨_,rfl,fun hq=>?_,fun hq _=>?_⟩
  ·refine(zU hi C6 hl 3).mono ?_;rintro _ h7 ⟨r,rfl,r0,r1,C7,f7⟩;obtain⟨r,rfl⟩:=vU r0;have wr:IntKind.i64.wrap (97+(r:Int))=((97+r:Nat):Int):=zr;refine⟨_,rfl,fun _=>?_⟩;rw[wr];refine Xr hi H hl (Y6.cur H C7 f7) (lo:=zs.length) (m:=zs.length+80) (uI _) (uI _) (by omega) (by omega) _ _ ?_ _ _ _ _ _ _ _;intro a8 c8 h8 ws t8 Y8 hlo hw;rw[w1];exact⟨⟨_,_,i+1,t8,ws,rfl,by omega,by omega,by omega,Y8⟩,by simp only[vB,vA,toInt_int];omega⟩
  ·obtain⟨s,rfl⟩:=vU s0;refine Xr hi H hl Y6 (lo:=zs.length) (m:=zs.length+80) (uI _) (uI _) (by omega) (by omega) _ _ ?_ _ _ _ _ _ _ _;intro a8 c8 h8 ws t8 Y8 hlo hw;rw[w1];exact⟨⟨_,_,i+1,t8,ws,rfl,by omega,by omega,by omega,Y8⟩,by simp only[vB,vA,toInt_int];omega⟩
 ·obtain⟨na,l,w,g1,g2,l15,w15⟩:=Y.A.get (s:=256) (by omega);refine⟨na,rfl,by omega,w,by rw[add_add,uB];exact g2,na,rfl,by omega,l,by rw[add_add,uB];exact g1,?_⟩;refine(BF hi H Y (x:=w) (n:=l)).mono ?_;rintro _ h5 ⟨a5,c5,z5,rfl,l5,Y5⟩;exact⟨_,_,_,rfl,_,_,z5,_,rfl,by omega,by omega,Y5.o,Y5.L⟩
end
section
theorem HI(hi:qaC S h)(H1:zo h .u8 a1 xs)(H2:zo h .u8 a2 xs) :
  zb oPP S kP #[.slice a1 xs.length c1,.slice a2 xs.length c2] h (fun v h'=>v=.bool true/\h'=h):=by
 refine Ji (vs:=[.slice a1 xs.length c1,.slice a2 xs.length c2]) ⟨rfl,rfl,trivial⟩ hi ?_;simp only[EZ,Tr.wp,Ex.ev,coerce,zc,ze,zd,SV.den,vA,vB,vI,vH,vW];exact⟨xs,rfl,H1.cells (c:=c1),xs,rfl,H2.cells (c:=c2),by simp[RK,CV]⟩
end
section
theorem WO(hi:qaC S h0)(H:zI h0 h b T code a c)(hl:code.length<=1048576) :
  zb oPP S q9 #[.pointer (some ⟨b,0,none⟩)] h (SE h0 h b T code a c fun ys=>ys.length<=100):=by
 refine Kx (vs:=[.pointer (some ⟨b,0,none⟩)]) ⟨rfl,trivial⟩ (hi.sub H.sub) ?_;simp only[Gv,Tr.wp,z4,Ex.ev,coerce,za,zc,ze,zd,zx,Cst.val,SV.den,zn,zL,zz,zk,zi,zy,vF,vG,vA,vB,vD,vE,vI,vH,vJ,vV,vK];refine(xP hi H hl 2).mono ?_;rintro _ h1 ⟨t,rfl,C1,f1⟩;have back:∀y,h1 y=none->h y=none:=fun y hy=>by
  by_cases hyb:y=b
  ·subst hyb;exact absurd hy C1.held
  ·rw[f1 y hyb]at hy;exact hy
 refine⟨_,rfl,fun ht=>?_,fun ht=>?_⟩
 ·intro b0 hb0;have e0:(#[]:Array Value)=ints .u8 []:=rfl;rw[e0];have s0:qaB h1 (upd h1 b0 (.cells (ints .u8 []) 5)):=Sub.zC hb0;exact⟨[],by simp,(Own.made (k:=.u8) (h:=h1) (b:=b0) (T:=5) []).part,fun y hy=>back y (New.of hb0 y hy),C1.mono s0,fun y g1 g2=>by rw[upd_ne fun e=>g1 (by rw[<-f1 y g2,e];exact hb0),f1 y g2],fun y hy=>by cases hy⟩
 ·intro b0 hb0;have e0:(#[Value.int .u8 100]:Array Value)=ints .u8 [100]:=rfl;rw[e0];have s0:qaB h1 (upd h1 b0 (.cells (ints .u8 [100]) 5)):=Sub.zC hb0;have hb0b:b0≠b:=fun e=>C1.held (e▸hb0)
  refine(J0 hi (C1.mono s0) hl 16).mono ?_;rintro _ h2 ⟨ys,hy,O,N,C2,f2,hbs⟩;obtain⟨a2,c2,rfl⟩:=So (tB.OR O);obtain⟨_,_,e2,hc2,g2⟩:=Part.ints O;cases e2
  refine⟨_,_,_,rfl,?_⟩;have P0:Part .u8 h2 (.slice (some ⟨b0,0,none⟩) 1 1) [100]:=((Own.made (k:=.u8) (h:=h1) (b:=b0) (T:=5) [100]).part).keep fun y hy=>by
   cases hy;exact f2 b0 (by rw[upd_same];simp) hb0b
  have hnb:∀o,zh (.slice (some ⟨b0,0,none⟩) 1 1)=some o->o=b0:=fun o ho=>by cases ho;rfl
  refine yA hi C2.sub P0 (fun y hy=>by rw[hnb y hy];exact ya H.sub (back b0 hb0)) g2 (by simp only[pC];omega) fun v' h3 o3 n3 s3 keep hblk=>?_
  have cur:h3 b=h2 b:=keep b C2.held (fun e=>by cases e;exact hb0b rfl);obtain⟨a3,c3,rfl,_,_⟩:=o3.ints;refine⟨100::ys,by simp only[uC];omega,o3,?_,C2.keep s3 cur,fun y g1 g2=>?_,fun y hy=>?_⟩
  ·rcases hblk with e | e
   ·intro y hy;have hy:zh (.slice a3 ([100]++ys).length c3)=some y:=hy;rw[e]at hy;rw[hnb y hy];exact back b0 hb0
   ·intro y hy;have h6:=e y hy;cases hh:h y with
    | none=>rfl
    | some o=>
     by_cases hyb:y=b
     ·subst hyb;exact absurd h6 C2.held
     ·have h5:h1 y=some o:=by rw[f1 y hyb,hh]
      have hyb0:y≠b0:=fun e=>by rw[e,hb0]at h5;cases h5
      have:h2 y=some o:=by rw[f2 y (by rw[upd_ne hyb0,h5];simp) hyb,upd_ne hyb0,h5]
      rw[this]at h6;cases h6
  ·have h5:h1 y=h y:=f1 y g2;have hyb0:y≠b0:=fun e=>g1 (by rw[<-h5,e];exact hb0)
   have h6:h2 y=h y:=by rw[f2 y (by rw[upd_ne hyb0,h5];exact g1) g2,upd_ne hyb0,h5]
   rw[keep y (by rw[h6];exact g1) (fun e=>hyb0 (hnb y e)),h6]
  ·rcases uM.1 hy with rfl | hy
   ·omega
   ·exact hbs y hy
end
variable {v:Value}{ys:List Int}
section
theorem J2{P:List Int->Prop}(D:SE h0 h b T code a c P v h'):∃a1 c1 ys,v=.slice a1 ys.length c1/\P ys/\GSt .u8 h0 h h' b T code a c (.slice a1 ys.length c1) ys/\∀y∈ys,0<=y/\y<256:=by
 obtain⟨ys,p,O,N,C,F,hb⟩:=D;obtain⟨a1,c1,rfl⟩:=So (tB.OR O);exact⟨a1,c1,ys,rfl,p,⟨O,fun y hy=>N y hy,C,F⟩,hb⟩
theorem Qb(hi:qaC S h0)(H:zI h0 h b T code a c)(hl:code.length<=1048576)(n:Int)(h1:0<=n:=by omega)(h2:n<=100000:=by omega) :
  zb oPP S jx #[.pointer (some ⟨b,0,none⟩),.int .i64 n] h (qu .u8 h0 h b T code a c fun ys=>(ys.length:Int)=n):=by
 obtain⟨n,rfl⟩:=vU h1;refine(PX hi H hl n).mono ?_;rintro v h3 ⟨ys,hy,O,N,C,F,hb⟩;obtain⟨a1,c1,rfl⟩:=So (tB.OR O);exact⟨a1,c1,ys,rfl,by omega,⟨O,fun y hy=>N y hy,C,F⟩⟩
theorem zaH{x:Int}(h0:0<=x)(h1:x<2):IntKind.u8.wrap x=x:=u8_in _ (by omega)
theorem Qc{x:Int}(h:jE ys)(h0:0<=x/\x<=1):jE (ys++[x]):=J1 h fun z hz=>by rw[uF.1 hz];exact h0
theorem Xs(hi:qaC S h0)(H:zI h0 h b T code a c)(hl:code.length<=1048576)(B:GSt .u8 h0 h g b T code a c (.slice ab bs.length cb) bs)(o1:jE bs)(hbl:bs.length<=400000)(X:Part .i64 g (.slice a1 xs.length c1) xs)(D:Part .i64 g (.slice a2 ds.length c2) ds)(hx:257<=xs.length/\xs.length<=288)(hd:1<=ds.length/\ds.length<=32)(fx:wU xs)(fd:wU ds)(t:Int)(K0 K1 K2:Kt)
  (hK:∀(a3:Option Addr) (c3:Nat) (h2:qaA) (zs:List Int) (t2:Int),GSt .u8 h0 h h2 b T code a c (.slice a3 zs.length c3) zs->jE zs->bs.length<=zs.length->zs.length<=bs.length+2000->K2 [.int .i64 t2,.slice a3 zs.length c3] h2){Q:Value->qaA->Prop}(e1 e2 e3 e5 e6 e7 e8 e9 e10 e11 e12 e13:Value) :
  stX.wp oPP S yb Q [.pointer (some ⟨b,0,none⟩),e1,e2,e3,.int .i64 t,e5,e6,e7,e8,e9,e10,e11,e12,e13,.slice ab bs.length cb,.slice a1 xs.length c1,.slice a2 ds.length c2] g [K0,K1,K2]:=by
 simp only[stX,Tr.wp,z4,Ex.ev,coerce,toInt_int,zc,ze,zd,zx,SV.den,zn,zL,zz,zk,zi,zy,vF,vG,vA,vB,vC,vQ,vD,vE,vI,vH,vJ,uC,uG,uD,uL,vV,vK];refine(Lq hi H hl B o1 hbl X D hx hd fx fd t).mono ?_;rintro _ h2 ⟨a3,c3,zs,t2,rfl,hz,hz2,oz,L⟩;exact⟨_,_,_,_,rfl,hK _ _ _ zs t2 L oz hz hz2⟩
theorem zbn{t:Bool}{l:Nat}(hl:l<=100):0<=(if t=true then IntKind.u64.wrap (IntKind.u64.wrap (65535-IntKind.u64.wrap (l:Int))+1)else IntKind.u64.wrap (65535-IntKind.u64.wrap (l:Int)))/\(if t=true then IntKind.u64.wrap (IntKind.u64.wrap (65535-IntKind.u64.wrap (l:Int))+1)else IntKind.u64.wrap (65535-IntKind.u64.wrap (l:Int)))<=100000:=by
 rw[u64_in (l:Int) (by omega),u64_in (65535-(l:Int)) (by omega)];split
 ·rw[u64_in _ (by omega)];omega
 ·omega
theorem WQ:wU yV:=⟨by decide +kernel,by decide +kernel⟩
theorem WR:wU (List.replicate 32 5):=⟨by decide,by decide +kernel⟩
theorem Fu(hi:qaC S h0)(H:zI h0 h b T code a c)(hl:code.length<=1048576)(t0:Int) :
  zb oPP S jS #[.pointer (some ⟨b,0,none⟩),.int .i64 t0] h (qu .u8 h0 h b T code a c fun zs=>1<=zs.length/\zs.length<=210000/\jE zs):=by
 refine EY (vs:=[.pointer (some ⟨b,0,none⟩),.int .i64 t0]) ⟨rfl,rfl,trivial⟩ (hi.sub H.sub) ?_;rw[Bo];simp only[Tr.wp,z4,Ex.ev,coerce,toInt_int,za,zc,ze,zd,zf,zx,zM,xL,z9,arith,Cst.val,SV.den,zn,zL,zz,zk,zi,zy,zV,zq,vF,vG,vA,vB,vC,vQ,vL,vR,vD,vE,vI,vH,vJ,uC,uG,uD,vW,uL,vV,vK];intro b0 hb0;have B0:GSt .u8 h0 h (upd h b0 (.cells #[] 5)) b T code a c (.slice (some ⟨b0,0,none⟩) 0 0) []:=GSt.new H hb0 [];refine(zU hi B0.C hl 3).mono ?_;rintro _ h1 ⟨n,rfl,n0,n1,C1,f1⟩;have B1:=B0.cur H C1 f1;obtain⟨n,rfl⟩:=vU n0;refine⟨_,rfl,?_⟩;have wn:IntKind.i64.wrap (1+(n:Int))=((1+n:Nat):Int):=zr;rw[wn];refine⟨fun us h'=>∃(t:Int) (a1:Option Addr) (c1 i:Nat) (zs:List Int),us=[.int .i64 t,.slice a1 zs.length c1,.int .i64 i]/\i<=1+n/\i<=zs.length/\zs.length<=70000*i/\jE zs/\GSt .u8 h0 h h' b T code a c (.slice a1 zs.length c1) zs,
  fun us _=>10-(toInt (us.getD 2 undef)).toNat,⟨t0,_,_,0,[],rfl,by omega,by simp,by simp,(fun z hz=>by cases hz),B1⟩,?_⟩
 rintro x a1 l1 c1 y h2 ⟨t,a1',c1',i,zs,hx1,hin,hz0,hz,oz,L⟩;simp only[uJ,uP,uH,pF,vW]at hx1;obtain⟨rfl,⟨rfl,rfl,rfl⟩,rfl⟩:=hx1;refine⟨fun hlt=>?_,fun hge=>⟨_,_,zs,rfl,⟨by omega,by omega,oz⟩,L⟩⟩;have hi3:i<3:=by omega
 have w1:IntKind.i64.wrap ((i:Int)+1)=((i+1:Nat):Int):=zr;have nxt:∀ {t2:Int} {a2:Option Addr} {c2:Nat} {h3:qaA} {ws:List Int},GSt .u8 h0 h h3 b T code a c (.slice a2 ws.length c2) ws->jE ws->i+1<=ws.length->ws.length<=70000*(i+1) ->
   (∃(t:Int) (a1:Option Addr) (c1 j:Nat) (zs:List Int),[Value.int .i64 t2,.slice a2 ws.length c2,.int .i64 (IntKind.i64.wrap ((i:Int)+1))]=[.int .i64 t,.slice a1 zs.length c1,.int .i64 j]/\j<=1+n/\j<=zs.length/\zs.length<=70000*j/\jE zs/\GSt .u8 h0 h h3 b T code a c (.slice a1 zs.length c1) zs)/\10-(toInt (Value.int .i64 (IntKind.i64.wrap ((i:Int)+1)))).toNat<10-(toInt (Value.int .i64 (i:Int))).toNat:=by
  intro t2 a2 c2 h3 ws W ow hw1 hw2;rw[w1];exact⟨⟨t2,a2,c2,i+1,ws,rfl,by omega,hw1,hw2,ow,W⟩,by simp only[toInt_int];omega⟩
 refine(zU hi L.C hl 3).mono ?_;rintro _ h3 ⟨kd,rfl,kd0,kd1,C3,f3⟩;have L3:=L.cur H C3 f3;refine⟨_,rfl,?_⟩;refine(xP hi C3 hl 40).mono ?_;rintro _ h4 ⟨tt,rfl,C4,f4⟩;have L4:=L3.cur H C4 f4;refine⟨_,rfl,fun b1 hb1=>?_⟩;generalize hlb:(if((i:Int)==IntKind.i64.wrap (((1+n:Nat):Int)-1))=true then(1:Int)else 0)=lb;have lb01:0<=lb/\lb<=1:=by rw[<-hlb];split <;> omega
 refine GSt.app hi H L4 (by omega) (by omega) hb1 fun a5 c5 h5 L5 _=>?_
 simp only[zd,zc,ze];generalize hk2:(if tt=true then(3:Int)else kd)=k2;have k2b:0<=k2/\k2<=3:=by rw[<-hk2];split <;> omega
 have wk:IntKind.u64.wrap k2=k2:=u64_in _ (by omega);rw[wk];have l5:(zs++[lb]).length=zs.length+1:=by simp
 refine(wD hi H L5 (by omega) (Qc oz lb01) (x:=k2) (n:=2)).mono ?_;rintro _ h6 ⟨a6,c6,ws,rfl,hw,ow,L6,_⟩;have hw:ws.length=zs.length+3:=by simp at hw;omega
 refine⟨_,_,_,rfl,fun hk0=>?_,fun hk0=>?_⟩
 ·refine⟨fun us h'=>∃(a1:Option Addr) (c1:Nat) (vs:List Int),us=[.slice a1 vs.length c1]/\ws.length<=vs.length/\vs.length+(8-vs.length%8)%8<=ws.length+8/\jE vs/\GSt .u8 h0 h h' b T code a c (.slice a1 vs.length c1) vs,
   fun us _=>(8-slL (us.getD 0 undef)%8)%8,⟨_,_,ws,rfl,by omega,by omega,ow,L6⟩,?_⟩
  rintro a7 l7 c7 h7 ⟨a7',c7',vs,hx2,hv1,hv2,ov,L7⟩;simp only[uJ,uH,vW]at hx2;obtain⟨rfl,rfl,rfl⟩:=hx2;have tm:((vs.length:Nat):Int).tmod 8=((vs.length%8:Nat):Int):=by rw[uA (by omega)];omega
  rw[tm];refine⟨fun hpos=>?_,fun hzero=>?_⟩
  ·refine(zU hi L7.C hl 2).mono ?_;rintro _ h8 ⟨q,rfl,q0,q1,C8,f8⟩;have L8:=L7.cur H C8 f8;refine⟨_,rfl,fun b2 hb2=>?_⟩;rw[zaH q0 q1];refine GSt.app hi H L8 (by omega) (by omega) hb2 fun a9 c9 h9 L9 _=>?_
   simp only[zd,zc,ze];have l9:(vs++[q]).length=vs.length+1:=by simp
   refine⟨⟨_,_,_,rfl,by omega,by rw[l9];omega,Qc ov (by omega),L9⟩,?_⟩;simp only[vA,zc,l9];omega
  ·refine(J0 hi L7.C hl 12).mono fun v h8 D8=>?_
   obtain⟨ad,cd,ds,rfl,hds,D,hdb⟩:=J2 D8;have L8:=L7.step H D.C D.F;have hD:∀y,zh (.slice ad ds.length cd)=some y->zh (.slice a7 vs.length c7)≠some y:=fun y hy e=>L7.P.held y e (D.N y hy)
   have hdl:ds.length<=11:=by omega
   refine⟨_,_,_,rfl,?_⟩;refine(xP hi D.C hl 15).mono ?_;rintro _ h9 ⟨tu,rfl,C9,f9⟩;have L9:=L8.cur H C9 f9;have D9:=D.cur L7.C C9 f9;have wl:IntKind.u64.wrap (ds.length:Int)=(ds.length:Int):=u64_in _ (by omega);refine⟨_,rfl,?_⟩;refine(wD hi H L9 (by omega) ov (x:=IntKind.u64.wrap (ds.length:Int)) (n:=16) (by rw[wl];omega)).mono ?_;rintro _ h10 ⟨a10,c10,v10,rfl,hv10,o10,L10,R10⟩;have hv10:v10.length=vs.length+16:=by simp at hv10;omega
   refine⟨_,_,_,rfl,?_⟩;refine(wD hi H L10 (by omega) o10 (n:=16) (zbn (by omega))).mono ?_;rintro _ h11 ⟨a11,c11,v11,rfl,hv11,o11,L11,R11⟩;have hv11:v11.length=v10.length+16:=by simp at hv11;omega
   have R0:=R10.trans R11;refine⟨_,_,_,rfl,?_⟩;refine⟨fun us h'=>∃(a1:Option Addr) (c1 j:Nat) (xs:List Int),us=[.slice a1 xs.length c1,.int .i64 j]/\j<=ds.length/\v11.length<=xs.length/\xs.length<=v11.length+8*j/\jE xs/\GSt .u8 h0 h h' b T code a c (.slice a1 xs.length c1) xs/\Rest h9 (.slice a7 vs.length c7) h' (.slice a1 xs.length c1),
    fun us _=>ds.length-(toInt (us.getD 1 undef)).toNat,⟨_,_,0,v11,rfl,by omega,by omega,by omega,o11,L11,R0⟩,?_⟩
   rintro a12 l12 c12 z h12 ⟨a12',c12',j,xs,hx3,hj,hx0,hx,ox,L12,R12⟩;simp only[uJ,uP,uH,pF,vW]at hx3;obtain⟨⟨rfl,rfl,rfl⟩,rfl⟩:=hx3;refine⟨fun hlt2=>?_,fun hge2 _=>?_⟩
   ·have hjl:j<ds.length:=by omega
    obtain⟨_,g1,g2⟩:=xR (R12.part D9.P hD) hjl;have hbj:=hdb ds[j] (uX _);have wj:IntKind.u64.wrap ds[j]=ds[j]:=u64_in _ (by omega);have w2:IntKind.i64.wrap ((j:Int)+1)=((j+1:Nat):Int):=zr;refine⟨g1,by omega,by omega,ds[j],by rw[vN];exact g2,?_⟩;rw[wj,w2];refine(wD hi H L12 (by omega) ox (x:=ds[j]) (n:=8)).mono ?_;rintro _ h13 ⟨a13,c13,v13,rfl,hv13,o13,L13,R13⟩;have hv13:v13.length=xs.length+8:=by simp at hv13;omega
    refine⟨_,_,_,rfl,⟨_,_,j+1,v13,rfl,by omega,by omega,by omega,o13,L13,R12.trans R13⟩,?_⟩;simp only[vB,vA,toInt_int];omega
   ·exact nxt L12 ox (by omega) (by omega)
 ·refine(Nb (hi.sub L6.C.sub)).mono ?_;rintro _ h7 ⟨af,cf,ag,cg,rfl,PF,PG,NF,NG,sF⟩;have L7:=L6.sub H sF;have PF:Part .i64 h7 (.slice af yV.length cf) yV:=by rw[qn];exact PF
  have PG:Part .i64 h7 (.slice ag (List.replicate 32 (5:Int)).length cg) (List.replicate 32 5):=PG;refine⟨_,_,_,_,_,_,rfl,fun hk=>?_,fun hk _=>?_⟩
  ·refine(Qa hi L7.C hl).mono ?_;rintro _ h8 ⟨ax,cx,xs,ay,cy,ys,rfl,X,Y,hx,fx,hy,fy⟩;have L8:=L7.step H X.C X.F;refine⟨_,_,_,_,_,_,rfl,?_⟩;refine(SJ hi X.C hl X.P (X.ne L7.C) Y.P (Y.ne L7.C) hx hy fx fy).mono ?_;rintro _ h9 ⟨az,cz,hs,rfl,hhs,ohs,Z⟩;have L9:=L8.step H Z.C Z.F;have X9:=X.step L7.C Z.C Z.F;have Y9:=Y.step L7.C Z.C Z.F;obtain⟨_,_,ez,_,hz9⟩:=Z.P.ints;cases ez
   refine⟨_,_,_,rfl,?_⟩;refine GSt.apps hi H L9 (fun _ _ e=>e) hz9 (by omega) (by omega) fun a10 c10 h10 L10 kp=>?_
   simp only[zd,zc,ze];have l10:(ws++hs).length=ws.length+hs.length:=vY;have X10:Part .i64 h10 (.slice ax xs.length cx) xs:=X9.P.keep fun y hy=>kp y (X9.P.held y hy) fun e=>L7.P.held y e (X.N y hy)
   have Y10:Part .i64 h10 (.slice ay ys.length cy) ys:=Y9.P.keep fun y hy=>kp y (Y9.P.held y hy) fun e=>L7.P.held y e (Y.N y hy)
   refine fun _=>Xs hi H hl L10 (J1 ow ohs) (by omega) X10 Y10 hx hy fx fy _ _ _ _ ?_ _ _ _ _ _ _ _ _ _ _ _ _
   exact fun a3 c3 h2 us t2 L11 o11 g1 g2 _=>nxt L11 o11 (by omega) (by omega)
  ·refine Xs hi H hl L7 ow (by omega) PF PG (by rw[qn];omega) (by simp) WQ WR _ _ _ _ ?_ _ _ _ _ _ _ _ _ _ _ _ _;exact fun a3 c3 h2 us t2 L11 o11 g1 g2 _=>nxt L11 o11 (by omega) (by omega)
end
variable {ce l1:Nat}{es zs:List Int}{h1:qaA}{ae:Option Addr}
section
theorem GSt.of{k:IntKind}(Hg:zI h0 g b T code a c)(P:Part k h2 v ys)(N:qaD g v)(s:qaB g h2):GSt k h0 g h2 b T code a c v ys:=⟨P,N,Hg.mono s,fun y hy _=>sub_eq s hy⟩
theorem Xt(hi:qaC S h0)(H:zI h0 h b T code a c)(hl:code.length<=1048576)(L:GSt .u8 h0 h g b T code a c (.slice a1 l1 c1) zs)(el:l1=zs.length)(hz:zs.length<=29000)(k:Int)(Ks:List Kt)(e1 e2 e5 e6:Value) :
  dbT.wp oPP S yb (qu .u8 h0 h b T code a c fun ys=>ys.length<=30000) [.pointer (some ⟨b,0,none⟩),e1,e2,.slice a1 l1 c1,.int .i64 k,e5,e6] g Ks:=by
 subst el;simp only[dbT,Tr.wp,z4,Ex.ev,coerce,toInt_int,za,zc,ze,zd,zx,z9,Cst.val,SV.den,zn,zL,zz,zk,zi,zy,vF,vG,vA,vB,vD,vE,vI,vH,vJ,vV,vK];refine⟨fun _=>?_,fun _=>⟨fun _=>?_,fun _=>⟨_,_,zs,rfl,by omega,L⟩⟩⟩
 ·refine(Qb hi L.C hl 3).mono ?_;rintro _ h3 ⟨a3,c3,ys,rfl,hy,D⟩;have L3:=L.step H D.C D.F;obtain⟨_,_,e,_,hy3⟩:=D.P.ints;cases e
  refine⟨_,_,_,rfl,?_⟩;refine GSt.apps hi H L3 (fun _ _ e=>e) hy3 (by omega) (by omega) fun a4 c4 h4 L4 _=>?_
  simp only[zd,zc,ze];exact⟨_,_,_,rfl,by show(zs++ys).length<=30000;rw[vY];omega,L4⟩
 ·refine(zU hi L.C hl 20).mono ?_;rintro _ h3 ⟨n,rfl,n0,n1,C3,f3⟩;have L3:=L.cur H C3 f3;refine⟨_,rfl,?_⟩;refine(Qb hi C3 hl n).mono ?_;rintro _ h4 ⟨a4,c4,ys,rfl,hy,D⟩;exact⟨_,_,_,rfl,_,_,ys,rfl,by omega,D.base L3.F C3.held⟩
theorem NJ(hi:qaC S h0)(H:zI h0 h b T code a c)(hl:code.length<=1048576)(t0:Int) :
  zb oPP S qW #[.pointer (some ⟨b,0,none⟩),.int .i64 t0] h (qu .u8 h0 h b T code a c fun zs=>zs.length<=30000):=by
 refine FF (vs:=[.pointer (some ⟨b,0,none⟩),.int .i64 t0]) ⟨rfl,rfl,trivial⟩ (hi.sub H.sub) ?_;rw[Cb];simp only[Tr.wp,z4,Ex.ev,coerce,toInt_int,za,zc,ze,zd,zf,zx,zM,xW,jI,z9,arith,Cst.val,SV.den,zn,zL,zz,zk,zi,zy,zq,yk,vF,vG,vA,vB,vC,vQ,vL,vD,vE,vI,vH,vJ,vW,vV,vK];refine(Fu hi H hl t0).mono ?_;rintro _ h1 ⟨a1,c1,bs,rfl,⟨hb1,hb2,ob⟩,B⟩;obtain⟨_,_,e,_,hx1⟩:=B.P.ints;cases e
 refine⟨_,_,_,rfl,?_⟩;refine(MZ (c:=c1) (hi.sub B.C.sub) hx1 ob).mono ?_;rintro v h2 ⟨O,N,s⟩;have L0:GSt .u8 h0 h1 h2 b T code a c v (pk bs bs.length):=GSt.of B.C O (fun y hy=>N y hy) s;obtain⟨a2,c2,rfl,hc2,_⟩:=L0.P.ints;have L:=L0.base B.F B.C.held;have hlen:(pk bs bs.length).length=(bs.length+7)/8:=D6;obtain⟨zs,hzs⟩:∃zs,zs=pk bs bs.length:=⟨_,rfl⟩;rw[<-hzs]at L hlen hc2 ⊢;refine⟨_,_,_,rfl,?_⟩;refine(zU hi L.C hl 10).mono ?_;rintro _ h3 ⟨k,rfl,k0,k1,C3,f3⟩;have L3:=L.cur H C3 f3;refine⟨_,rfl,?_⟩;refine(zU hi C3 hl (zs.length:Int)).mono ?_;rintro _ h4 ⟨q,rfl,q0,q1,C4,f4⟩;have L4:=L3.cur H C4 f4;obtain⟨q,rfl⟩:=vU q0;have hq:q<zs.length:=by omega
 refine⟨_,rfl,?_⟩;refine(zU hi C4 hl 8).mono ?_;rintro _ h5 ⟨x,rfl,x0,x1,C5,f5⟩;have L5:=L4.cur H C5 f5;obtain⟨_,n5,g5⟩:=L5.cell hq;refine⟨_,rfl,fun _=>⟨by omega,by omega,?_⟩,fun _=>⟨fun _=>?_,fun _ _=>Xt hi H hl L5 rfl (by omega) _ _ _ _ _ _⟩⟩
 ·obtain⟨a6,c6,e6,L6⟩:=L5.FA (n:=q) (by omega);rw[vN,e6];exact⟨_,_,_,rfl,by show(zs.take q).length<=30000;rw[pK];omega,L6⟩
 ·refine⟨n5,by omega,by omega,zs[q],by rw[vN];exact g5,?_⟩;refine(jK (hi.sub C5.sub) x x0).mono ?_;rintro _ h6 ⟨rfl,rfl⟩;refine⟨_,rfl,fun p hp=>?_,n5,by omega,by omega,?_⟩
  ·simp only[uM,uO,pM]at hp;rcases hp with rfl
   rw[add_add,uB]at g5;simp only[Ex.ev,coerce,toInt_int,zc,ze,zd,zf,vA,vB];rw[vN];exact g5
  ·rw[vN];obtain⟨o1,L6⟩:=L5.set hi H hq (Go.bits .xor .u8 zs[q] (IntKind.u8.wrap ((2^x.toNat:Nat):Int)));exact⟨o1,fun _=>Xt hi H hl L6 (uR ..).symm (by rw[uR];omega) _ _ _ _ _ _⟩
theorem WT(hi:qaC S h0)(H:zI h0 h b T code a c)(hl:code.length<=1048576) :
  zb oPP S Ci #[.pointer (some ⟨b,0,none⟩)] h (fun v h'=>∃n,v=.int .i64 n/\0<=n/\n<=32769/\zI h0 h' b T code a c/\∀y,y≠b->h' y=h y):=by
 refine Kw (vs:=[.pointer (some ⟨b,0,none⟩)]) ⟨rfl,trivial⟩ (hi.sub H.sub) ?_;simp only[Gu,Tr.wp,z4,Ex.ev,coerce,toInt_int,za,zx,z9,arith,Cst.val,SV.den,zn,zL,zz,zk,zi,zy,vF,vG,vA,vB,vD,vE,vI,vH,vJ,vV,vK];refine(zU hi H hl 10).mono ?_;rintro _ h1 ⟨x,rfl,x0,x1,C1,f1⟩;refine⟨_,rfl,fun _=>?_,fun _=>⟨fun _=>?_,fun _=>⟨_,rfl,by omega,by omega,C1,f1⟩⟩⟩
 ·refine(zU hi C1 hl 20).mono ?_;rintro _ h2 ⟨y,rfl,y0,y1,C2,f2⟩;exact⟨_,rfl,_,rfl,y0,by omega,C2,fun z hz=>by rw[f2 z hz,f1 z hz]⟩
 ·refine(zU hi C1 hl 2).mono ?_;rintro _ h2 ⟨y,rfl,y0,y1,C2,f2⟩;have w:IntKind.i64.wrap (32768+y)=32768+y:=i64_in _ (by omega);exact⟨_,rfl,_,rfl,by rw[w];omega,by rw[w];omega,C2,fun z hz=>by rw[f2 z hz,f1 z hz]⟩
def ZZ(h:qaA)(v:Value)(h':qaA):Prop:=
 ∃a1 c1 bs a2 c2 ds n,v=.tuple #[.slice a1 bs.length c1,.int .i64 n,.slice a2 ds.length c2]/\bs.length<=70000/\ds.length<=100/\0<=n/\n<=32769/\tB.O h' (.slice a1 bs.length c1) bs/\tB.O h' (.slice a2 ds.length c2) ds/\qaB h h'
theorem RG(n:Nat):yl (n*1) #[Value.int .u8 0]=ints .u8 (List.replicate n 0):=by
 rw[pR];exact(ID n (Value.int .u8 0)).trans (by simp[ints])
theorem Xu(hi:qaC S h)(H:zI h h1 b T code a c)(hl:code.length<=1048576)(E:GSt .u8 h h1 g b T code a c (.slice ae es.length ce) es)(he:es.length<=100)(Ks:List Kt)(e0 e2 e3:Value) :
  diT.wp oPP S yb (ZZ h) [e0,.pointer (some ⟨b,0,none⟩),e2,e3,.slice ae es.length ce] g Ks:=by
 simp only[diT,Tr.wp,Fx,z4,Ex.ev,coerce,toInt_int,za,zc,ze,zd,zx,arith,Cst.val,SV.den,zn,zL,zz,zk,zi,zy,vF,vG,vA,vB,vD,vE,vI,vH,vJ,vV,vK];refine(xP hi E.C hl 60).mono ?_;rintro _ h2 ⟨t,rfl,C2,f2⟩;have E2:=E.cur H C2 f2;refine⟨_,rfl,fun _=>?_,fun _=>?_⟩
 ·refine(zU hi C2 hl 2).mono ?_;rintro _ h3 ⟨x,rfl,x0,x1,C3,f3⟩;have E3:=E2.cur H C3 f3;obtain⟨x,rfl⟩:=vU x0;have w:IntKind.i64.wrap (65536+(x:Int))=((65536+x:Nat):Int):=zr;refine⟨_,rfl,?_⟩;rw[w];have w2:IntKind.i64.wrap ((65536+x:Nat):Int)=((65536+x:Nat):Int):=zr;rw[w2];refine⟨by omega,by omega,by omega,fun b4 hb4=>?_⟩;rw[vN,RG];have s4:qaB h3 (upd h3 b4 (.cells (ints .u8 (List.replicate (65536+x) 0)) 5)):=Sub.zC hb4;have P4:Part .u8 (upd h3 b4 (.cells (ints .u8 (List.replicate (65536+x) 0)) 5)) (.slice (some ⟨b4,0,none⟩) (List.replicate (65536+x) (0:Int)).length (List.replicate (65536+x) (0:Int)).length) (List.replicate (65536+x) 0):=(Own.made _).part;have lr:(List.replicate (65536+x) (0:Int)).length=65536+x:=uV ..;refine⟨_,_,List.replicate (65536+x) 0,_,_,es,32768,by rw[lr],by rw[lr];omega,he,by omega,by omega,P4,(E3.sub H s4).P,C3.sub.trans s4⟩
 ·refine(NJ hi C2 hl (es.length:Int)).mono ?_;rintro _ h3 ⟨a3,c3,bs,rfl,hb,B⟩;have E3:=E2.step H B.C B.F;refine⟨_,_,_,rfl,?_⟩;refine(WT hi B.C hl).mono ?_;rintro _ h4 ⟨n,rfl,n0,n1,C4,f4⟩;have E4:=E3.cur H C4 f4;have B4:=B.cur C2 C4 f4;exact⟨_,rfl,_,_,bs,_,_,es,n,rfl,by omega,he,n0,n1,B4.P,E4.P,C4.sub⟩
theorem NK(hi:qaC S h)(hx:zo h .u8 a code)(hl:code.length<=1048576) :
  zb oPP S qV #[.slice a code.length c] h (ZZ h):=by
 refine FE (vs:=[.slice a code.length c]) ⟨rfl,trivial⟩ hi ?_;rw[Ca];simp only[Tr.wp,z4,Ex.ev,coerce,za,zc,ze,zd,zx,Cst.val,SV.den,zn,zL,zz,zk,zi,zy,vF,vG,vA,vB,vC,vD,vE,vI,vH,vJ,vV,vK];refine(RF hi hx hl).mono ?_;rintro _ h1 ⟨b,T,rfl,H⟩;refine⟨_,rfl,?_⟩;refine(J0 hi H hl 20).mono fun v h2 D2=>?_
 obtain⟨ad,cd,ds,rfl,hds,D,_⟩:=J2 D2;refine⟨_,_,_,rfl,?_⟩;refine(xP hi D.C hl 2).mono ?_;rintro _ h3 ⟨t,rfl,C3,f3⟩;have D3:=D.cur H C3 f3;refine⟨_,rfl,fun _ b1 hb1 _=>?_,fun _ _=>Xu hi H hl D3 (by omega) _ _ _ _⟩;exact Xu hi H hl (es:=[]) (GSt.new' C3 D3.F hb1 []) (by simp) _ _ _ _
end
variable {n x:Nat}
section
def le(x n:Nat):List Int:=(List.range n).map fun i=>((x/256^i%256:Nat):Int)
def be(x n:Nat):List Int:=(le x n).reverse
theorem UY:(le x n).length=n:=by simp[le]
theorem zaa:(be x n).length=n:=by simp[be,UY]
theorem le_succ:le x (n+1)=le x n++[((x/256^n%256:Nat):Int)]:=by simp[le,gJ]
theorem YK:be x (n+1)=[((x/256^n%256:Nat):Int)]++be x n:=by simp[be,le_succ]
def Ax(x n:Nat)(hb:Bool):List Int:=if hb then be x n else le x n
theorem J3{hb:Bool}:(Ax x n hb).length=n:=by unfold Ax;split <;> simp[zaa,UY]
theorem YL(hi:qaC S h)(x:Nat)(hx:x<18446744073709551616)(n:Nat)(hn:n<=8)(hb:Bool) :
  zb oPP S kQ #[.int .u64 x,.int .i64 n,.bool hb] h (fun v h'=>Part .u8 h' v (Ax x n hb)/\qaD h v/\qaB h h'):=by
 refine LW (vs:=[.int .u64 x,.int .i64 n,.bool hb]) ⟨rfl,rfl,rfl,trivial⟩ hi ?_;simp only[Hi,Tr.wp,Ex.ev,coerce,toInt_int,za,zc,ze,zd,z9,arith,Cst.val,SV.den,zV,vA,vB,vC,vQ,vL,vR,vD,vE,vI,vH];intro b0 hb0;refine⟨fun us h'=>∃(i:Nat) (a:Option Addr) (c:Nat),us=[.int .u64 ((x/256^i:Nat):Int),.slice a i c,.int .i64 i]/\i<=n/\Part .u8 h' (.slice a i c) (Ax x i hb)/\qaD h (.slice a i c)/\qaB h h',
  fun us _=>n-(toInt (us.getD 2 undef)).toNat,⟨0,some ⟨b0,0,none⟩,0,by simp,by omega,?_,New.of hb0,Sub.zC hb0⟩,?_⟩
 ·have e:Ax x 0 hb=[]:=by cases hb <;> rfl
  rw[e];exact(Own.made (k:=.u8) (h:=h) (b:=b0) (T:=5) []).part
 rintro y a1 l1 c1 z h' ⟨i,a2,c2,hx1,hi2,P,N,s⟩;simp only[uJ,uP,uH,pF,vW]at hx1;obtain⟨rfl,⟨rfl,rfl,rfl⟩,rfl⟩:=hx1;refine⟨fun hlt=>?_,fun hge=>?_⟩
 ·have hp:0<256^l1:=Nat.pow_pos (by omega);have hle:x/256^l1<=x:=Nat.div_le_self _ _;have wb:IntKind.u8.wrap (((x/256^l1:Nat):Int).tmod 256)=((x/256^l1%256:Nat):Int):=by
   generalize x/256^l1=q at hle;rw[uA (by omega),mP];omega
  have wd:IntKind.u64.wrap (((x/256^l1:Nat):Int).tdiv 256)=((x/256^(l1+1):Nat):Int):=by
   rw[gC,<-Nat.div_div_eq_div_mul];generalize x/256^l1=q at hle;rw[u64_quo _ _ ⟨by omega,by omega,by omega⟩];omega
  have w2:IntKind.i64.wrap ((l1:Int)+1)=((l1+1:Nat):Int):=zr;have hl0:(Ax x l1 hb).length=l1:=J3;rw[wb,wd,w2];obtain⟨a3,c3,e3,hc3,g3⟩:=P.ints;rw[hl0]at e3;cases e3
  have hlt2:l1<n:=by omega
  have fin:∀(v':Value) (h3:qaA),Part .u8 h3 v' (Ax x (l1+1) hb)->qaD h v'->qaB h h3 ->
    (fun(us:List Value) (h':qaA)=>∃(i:Nat) (a:Option Addr) (c:Nat),us=[.int .u64 ((x/256^i:Nat):Int),.slice a i c,.int .i64 i]/\i<=n/\Part .u8 h' (.slice a i c) (Ax x i hb)/\qaD h (.slice a i c)/\qaB h h') [.int .u64 ((x/256^(l1+1):Nat):Int),.slice (slA v') (slL v') (slC v'),.int .i64 ((l1+1:Nat):Int)] h3 /\
    (fun(us:List Value) (_:qaA)=>n-(toInt (us.getD 2 undef)).toNat) [.int .u64 ((x/256^(l1+1):Nat):Int),.slice (slA v') (slL v') (slC v'),.int .i64 ((l1+1:Nat):Int)] h3<(fun(us:List Value) (_:qaA)=>n-(toInt (us.getD 2 undef)).toNat) [.int .u64 ((x/256^l1:Nat):Int),.slice a1 l1 c1,.int .i64 (l1:Int)] h':=by
   intro v' h3 o n3 s4;have el:(Ax x (l1+1) hb).length=l1+1:=J3;obtain⟨a4,c4,rfl,_,_⟩:=o.ints;rw[el]at o n3;simp only[zd,zc,ze,el];exact⟨⟨l1+1,a4,c4,rfl,by omega,o,n3,s4⟩,by simp only[vB,vA,toInt_int,vN];omega⟩
  have sb:∀b,h' b=none->qaB h' (upd h' b (.cells (ints .u8 [((x/256^l1%256:Nat):Int)]) 5)):=fun b hnb=>Sub.zC hnb
  have hb1:[((x/256^l1%256:Nat):Int)]++Ax x l1 true=Ax x (l1+1) true:=YK.symm;have hb0:Ax x l1 false++[((x/256^l1%256:Nat):Int)]=Ax x (l1+1) false:=le_succ.symm;generalize hz:Ax x l1 hb=zs at P g3 hl0;generalize ((x/256^l1%256:Nat):Int)=q at sb hb0 hb1 ⊢;obtain rfl:l1=zs.length:=hl0.symm;refine⟨fun hh b hnb=>?_,fun hh b hnb=>?_⟩
  ·subst hh;refine yA (xs:=[q]) hi (s.trans (sb b hnb)) (Own.made (k:=.u8) [q]).part (New.of (ya s hnb)) (ys:=zs) (g3.sub (sb b hnb)) (by simp only[pC];omega) fun v' h3 o n3 s4 _ _=>fun _=>fin v' h3 ?_ n3 s4
   rw[hz]at hb1;rw[<-hb1];exact o
  ·subst hh;refine yA (xs:=zs) hi (s.trans (sb b hnb)) (P.sub (sb b hnb)) N (ys:=[q]) zo.new (by simp only[pC];omega) fun v' h3 o n3 s4 _ _=>fun _=>fin v' h3 ?_ n3 s4
   rw[hz]at hb0;rw[<-hb0];exact o
 ·obtain rfl:l1=n:=by omega
  exact⟨P,N,s⟩
end
variable {au az:Option Addr}{cu cz:Nat}{us:List Int}
section
theorem YM(z:Int):∃x:Nat,IntKind.u64.wrap z=x/\x<18446744073709551616:=
 ⟨(IntKind.u64.wrap z).toNat,by rw[IntKind.wrap_u64];omega,by rw[IntKind.wrap_u64];omega⟩
theorem Qd(hi:qaC S h0)(H:zI h0 h b T code a c)(z:Int)(n:Nat)(hn:n<=8:=by omega) :
  zb oPP S kQ #[.int .u64 (IntKind.u64.wrap z),.int .i64 n,.bool true] h (qu .u8 h0 h b T code a c fun ys=>ys.length=n):=by
 obtain⟨x,e,hx⟩:=YM z;rw[e];refine(YL (hi.sub H.sub) x hx n hn true).mono ?_;rintro v h2 ⟨P,N,s⟩;have L:GSt .u8 h0 h h2 b T code a c v (Ax x n true):=GSt.of H P N s;obtain⟨a2,c2,rfl,_,_⟩:=P.ints;exact⟨_,_,_,rfl,J3,L⟩
theorem zab(h1:8<=m)(h2:m<=15):(Lit.int .i64 ((2^m:Nat):Int)).wf=true:=by
 have:m=8\/m=9\/m=10\/m=11\/m=12\/m=13\/m=14\/m=15:=by omega
 rcases this with rfl | rfl | rfl | rfl | rfl | rfl | rfl | rfl <;> decide
theorem Xv(hi:qaC S h0)(H:zI h0 h b T code a c)(hl:code.length<=1048576)(U:Part .u8 h (.slice au us.length cu) us)(hub:zh (.slice au us.length cu)≠some b)(hul:us.length<=100){ao:Option Addr}{co:Nat}{os:List Int}(L:GSt .u8 h0 h g b T code a c (.slice ao os.length co) os)(hol:os.length<=10){p q:Int}(hp:0<=p/\p<8)(hq:0<=q/\q<2)(Ks:List Kt)(e4 e5:Value) :
  lzT.wp oPP S yb (qu .u8 h0 h b T code a c fun ys=>1<=ys.length/\ys.length<=30000) [.pointer (some ⟨b,0,none⟩),.slice au us.length cu,.int .i64 p,.int .i64 q,e4,e5,.slice ao os.length co] g Ks:=by
 simp only[lzT,Tr.wp,z4,Ex.ev,coerce,toInt_int,zc,ze,zd,zx,arith,Cst.val,SV.den,zn,zL,zz,zk,zi,zy,vF,vG,vA,vB,vD,vE,vI,vH,vJ,uD,vV,vK];refine(Fu hi L.C hl (us.length:Int)).mono ?_;rintro _ h1 ⟨a1,c1,bs,rfl,⟨hb1,hb2,ob⟩,B⟩;have L1:=L.step H B.C B.F;obtain⟨_,_,e,_,hx1⟩:=B.P.ints;cases e
 refine⟨_,_,_,rfl,?_⟩;refine(MZ (c:=c1) (hi.sub B.C.sub) hx1 ob).mono ?_;rintro v h2 ⟨O,N,s⟩;have Z:GSt .u8 h0 h1 h2 b T code a c v (pk bs bs.length):=GSt.of B.C O (fun y hy=>N y hy) s;have hlen:(pk bs bs.length).length=(bs.length+7)/8:=D6;obtain⟨zs,hzs⟩:∃zs,zs=pk bs bs.length:=⟨_,rfl⟩;rw[<-hzs]at Z hlen;obtain⟨a2,c2,rfl,hc2,hz2⟩:=Z.P.ints;have L2:=L1.sub H s;have U2:=qw U hub L2.F;obtain⟨m,hm,m8,m15⟩:∃m:Nat,IntKind.i64.wrap (IntKind.i64.wrap (7-IntKind.i64.wrap (p*q))+8)=m/\8<=m/\m<=15:=by
  have key:∀z:Int,0<=z->z<=7->∃m:Nat,IntKind.i64.wrap (IntKind.i64.wrap (7-IntKind.i64.wrap z)+8)=m/\8<=m/\m<=15:=fun z z0 z1=>by
   rw[i64_in z (by omega),i64_in (7-z) (by omega),i64_in _ (by omega)];exact⟨(7-z+8).toNat,by omega,by omega,by omega⟩
  rcases(show q=0\/q=1 by omega)with rfl | rfl
  ·exact key (p*0) (by omega) (by omega)
  ·exact key (p*1) (by omega) (by omega)
 rw[hm];refine⟨_,_,_,rfl,?_⟩;refine(jK (hi.sub L2.C.sub) (m:Int)).mono ?_;rintro _ h3 ⟨rfl,rfl⟩;rw[vN];refine⟨_,rfl,?_⟩;refine(Fi (hi.sub L2.C.sub) Z.P (show zs.length<=1048576 by omega) _ (zab m8 m15) U2 (show us.length<=1048576 by omega)).mono ?_;rintro v h4 ⟨OI,NI,s4⟩;obtain⟨ai,ci,rfl⟩:=Uq (xx.OR OI);have PI:=Pg OI;obtain⟨ans,hans⟩:∃ans,ans=zK zs ((2^m:Nat):Int) us:=⟨_,rfl⟩;rw[<-hans]at PI NI ⊢;have L4:=L2.sub H s4;refine⟨_,_,_,_,_,rfl,?_⟩;have hO:∀y,zh (.slice ai ans.2.1.length ci)=some y->zh (.slice ao os.length co)≠some y:=fun y hy e=>by
  have h1:=NI y ((Hu (x:=ans)).2 hy);exact L2.P.held y e h1
 obtain⟨_,_,ez,_,hz4⟩:=(Z.P.sub s4).ints;cases ez
 have smA:ans.2.1.length<=1099511627776:=by rw[hans];exact Sv (show zs.length<=1048576 by omega) (show us.length<=1048576 by omega)
 refine GSt.apps hi H L4 (fun _ _ e=>e) hz4 (by omega) (by omega) fun a5 c5 h5 L5 kp=>?_
 simp only[zd,zc,ze];have l5:(os++zs).length=os.length+zs.length:=vY;obtain⟨_,_,ei,_,hi5⟩:=(PI.keep (h':=h5) fun y hy=>kp y (PI.held y hy) (hO y hy)).ints;cases ei
 refine(kq (hi.sub L5.C.sub) 1 ai ci ans.2.1 hi5).mono ?_;rintro _ h6 ⟨rfl,rfl⟩;refine⟨_,rfl,?_⟩;refine(Qd hi L5.C (yQ 1 ans.2.1) 4).mono ?_;rintro _ h7 ⟨a7,c7,ys,rfl,hy,Y⟩;have L7:=L5.step H Y.C Y.F;obtain⟨_,_,ey,_,hy7⟩:=Y.P.ints;cases ey
 refine⟨_,_,_,rfl,?_⟩;refine GSt.apps hi H L7 (fun _ _ e=>e) hy7 (by omega) (by omega) fun a8 c8 h8 L8 _=>?_
 simp only[zd,zc,ze];have l8:(os++zs++ys).length=os.length+zs.length+ys.length:=by rw[vY,l5]
 exact⟨_,_,_,rfl,⟨by omega,by omega⟩,L8⟩
theorem WU(hi:qaC S h0)(H:zI h0 h b T code a c)(hl:code.length<=1048576)(U:Part .u8 h (.slice au us.length cu) us)(hub:zh (.slice au us.length cu)≠some b)(hul:us.length<=100) :
  zb oPP S Cj #[.pointer (some ⟨b,0,none⟩),.slice au us.length cu] h (qu .u8 h0 h b T code a c fun ys=>1<=ys.length/\ys.length<=30000):=by
 refine Ky (vs:=[.pointer (some ⟨b,0,none⟩),.slice au us.length cu]) ⟨rfl,rfl,trivial⟩ (hi.sub H.sub) ?_;rw[Gw];simp only[Tr.wp,z4,Ex.ev,coerce,toInt_int,za,zc,ze,zd,zx,xL,z9,arith,Cst.val,SV.den,zn,zL,zz,zk,zi,zy,vF,vG,vA,vB,vC,vL,vR,vD,vE,vI,vH,vJ,vV,vK];refine(zU hi H hl 8).mono ?_;rintro _ h1 ⟨p,rfl,p0,p1,C1,f1⟩;refine⟨_,rfl,?_⟩;refine(zU hi C1 hl 2).mono ?_;rintro _ h2 ⟨q,rfl,q0,q1,C2,f2⟩;refine⟨_,rfl,?_⟩;refine(zU hi C2 hl 4).mono ?_;rintro _ h3 ⟨r,rfl,r0,r1,C3,f3⟩;refine⟨_,rfl,?_⟩;have f:∀y,h y≠none->y≠b->h3 y=h y:=fun y _ hy=>by rw[f3 y hy,f2 y hy,f1 y hy]
 refine(Qd hi C3 _ 2).mono ?_;rintro _ h4 ⟨a4,c4,os,rfl,ho,O⟩;have L4:=O.base f C3.held;refine⟨_,_,_,rfl,fun hpos=>?_,fun _ _=>Xv hi H hl U hub hul L4 (by omega) ⟨p0,p1⟩ ⟨q0,q1⟩ _ _ _⟩;obtain⟨_,_,e,_,hu4⟩:=(qw U hub L4.F).ints;cases e
 refine(kq (hi.sub L4.C.sub) 1 au cu us hu4).mono ?_;rintro _ h6 ⟨rfl,rfl⟩;refine⟨_,rfl,?_⟩;refine(Qd hi L4.C (yQ 1 us) 4).mono ?_;rintro _ h7 ⟨a7,c7,ys,rfl,hy,Y⟩;have L7:=L4.step H Y.C Y.F;obtain⟨_,_,ey,_,hy7⟩:=Y.P.ints;cases ey
 refine⟨_,_,_,rfl,?_⟩;refine GSt.apps hi H L7 (fun _ _ e=>e) hy7 (by omega) (by omega) fun a8 c8 h8 L8 _=>?_
 simp only[zd,zc,ze];have l8:(os++ys).length=os.length+ys.length:=vY;exact fun _=>Xv hi H hl U hub hul L8 (by omega) ⟨p0,p1⟩ ⟨q0,q1⟩ _ _ _
theorem Xw(hi:qaC S h0)(H:zI h0 h b T code a c)(L:GSt .u8 h0 h g b T code a c (.slice a1 l1 c1) zs)(el:l1=zs.length){m q:Nat}(hm:zs.length<=m)(hq:q<zs.length)(x:Int)(Ks:List Kt)(e0 e1 e2 e4 e5:Value) :
  lsT.wp oPP S yb (qu .u8 h0 h b T code a c fun ys=>ys.length<=m) [e0,e1,e2,.int .i64 x,e4,e5,.slice a1 l1 c1,.int .i64 q] g Ks:=by
 subst el;simp only[lsT,Tr.wp,Ex.ev,coerce,toInt_int,za,zc,ze,zd,zf,zM,z9,arith,Cst.val,SV.den,zy,zq,yk,vA,vB,vL,vD,vE,vI,vH,vW];obtain⟨_,n1,g1⟩:=L.cell hq;refine⟨n1,by omega,by omega,zs[q],by rw[vN];exact g1,n1,by omega,by omega,?_⟩;rw[vN];obtain⟨o1,L2⟩:=L.set hi H hq (Go.bits .xor .u8 zs[q] (IntKind.u8.wrap (IntKind.i64.wrap (1+x))));refine⟨o1,a1,c1,_,?_,?_,L2⟩
 ·rw[uR]
 ·show(zs.set q _).length<=m;rw[uR];exact hm
theorem UZ(hi:qaC S h0)(H:zI h0 h b T code a c)(hl:code.length<=1048576)(L:GSt .u8 h0 h g b T code a c (.slice a1 zs.length c1) zs)(h1:1<=zs.length)(h2:zs.length<=30000) :
  zb oPP S By #[.pointer (some ⟨b,0,none⟩),.slice a1 zs.length c1] g (qu .u8 h0 h b T code a c fun ys=>ys.length<=40000):=by
 refine Jj (vs:=[.pointer (some ⟨b,0,none⟩),.slice a1 zs.length c1]) ⟨rfl,rfl,trivial⟩ (hi.sub L.C.sub) ?_;rw[Fa];simp only[Tr.wp,z4,Ex.ev,coerce,toInt_int,za,zc,ze,zd,zx,xg,xW,jI,z9,Cst.val,SV.den,zn,zL,zz,zk,zi,zy,vF,vG,vA,vB,vC,vQ,vL,vD,vE,vI,vH,vJ,vV,vK];refine(zU hi L.C hl (zs.length:Int)).mono ?_;rintro _ g1 ⟨q,rfl,q0,q1,C1,f1⟩;have L1:=L.cur H C1 f1;obtain⟨q,rfl⟩:=vU q0;refine⟨_,rfl,?_⟩;refine(zU hi C1 hl 255).mono ?_;rintro _ g2 ⟨x,rfl,x0,x1,C2,f2⟩;have L2:=L1.cur H C2 f2;refine⟨_,rfl,?_⟩;refine(zU hi C2 hl 4).mono ?_;rintro _ g3 ⟨k,rfl,k0,k1,C3,f3⟩;have L3:=L2.cur H C3 f3;obtain⟨_,_,e,hc1,hz3⟩:=L3.P.ints;cases e
 refine⟨_,rfl,fun _=>⟨by omega,by omega,?_⟩,fun _=>⟨fun _=>?_,fun _ b1 hb1=>?_⟩⟩
 ·obtain⟨a6,c6,e6,L6⟩:=L3.FA (n:=q) (by omega);rw[vN,e6];exact⟨_,_,_,rfl,by show(zs.take q).length<=40000;rw[pK];omega,L6⟩
 ·refine(Qb hi C3 hl 4).mono ?_;rintro _ g4 ⟨a4,c4,ys,rfl,hy,Y⟩;have L4:=L3.step H Y.C Y.F;obtain⟨_,_,ey,_,hy4⟩:=Y.P.ints;cases ey
  refine⟨_,_,_,rfl,?_⟩;refine GSt.apps hi H L4 (fun _ _ e=>e) hy4 (by omega) (by omega) fun a5 c5 g5 L5 _=>?_
  simp only[zd,zc,ze];exact⟨_,_,_,rfl,by show(zs++ys).length<=40000;rw[vY];omega,L5⟩
 ·have N4:GSt .u8 h0 g3 (upd g3 b1 (.cells #[] 5)) b T code a c (.slice (some ⟨b1,0,none⟩) 0 0) []:=GSt.new C3 hb1 [];refine GSt.apps hi C3 N4 (fun _ _ e=>e) (hz3.sub (Sub.zC hb1)) (by omega) (by simp;omega) fun a5 c5 g5 N5 _=>?_
  have N5:GSt .u8 h0 g3 g5 b T code a c (.slice a5 zs.length c5) zs:=N5;have M5:=N5.base L3.F C3.held;refine⟨fun hc=>?_,fun _ _=>Xw hi H M5 rfl (by omega) (by omega) _ _ _ _ _ _ _⟩;have h12:12<zs.length:=by simp at hc;omega
  refine(zU hi M5.C hl 12).mono ?_;rintro _ g6 ⟨r,rfl,r0,r1,C6,f6⟩;obtain⟨r,rfl⟩:=vU r0;exact⟨_,rfl,fun _=>Xw hi H (M5.cur H C6 f6) rfl (by omega) (by omega) _ _ _ _ _ _ _⟩
def WV(h:qaA)(v:Value)(h':qaA):Prop:=
 ∃a1 c1 bs a2 c2 ds,v=.tuple #[.slice a1 bs.length c1,.slice a2 ds.length c2]/\bs.length<=70000/\ds.length<=100/\okB ds/\tB.O h' (.slice a1 bs.length c1) bs/\tB.O h' (.slice a2 ds.length c2) ds/\qaB h h'
theorem Xx(hi:qaC S h)(H:zI h h1 b T code a c)(hl:code.length<=1048576)(Z:GSt .u8 h h1 g b T code a c (.slice az zs.length cz) zs)(hz:zs.length<=40000)(E:GSt .u8 h h1 g b T code a c (.slice ae es.length ce) es)(he:es.length<=100)(hb:okB es)(e0 e2 e3 e4 e6:Value) :
  dzC.wp oPP S yb (WV h) [e0,.pointer (some ⟨b,0,none⟩),e2,e3,e4,.slice az zs.length cz,e6,.slice ae es.length ce] g []:=by
 simp only[dzC,Tr.wp,Fx,z4,Ex.ev,coerce,toInt_int,za,zc,ze,zd,zx,arith,Cst.val,SV.den,zn,zL,zz,zk,zi,zy,vF,vG,vA,vB,vC,vD,vE,vI,vH,vJ,vV,vK];refine(xP hi E.C hl 60).mono ?_;rintro _ h2 ⟨t,rfl,C2,f2⟩;have E2:=E.cur H C2 f2;have Z2:=Z.cur H C2 f2;refine⟨_,rfl,fun _=>?_,fun _ _=>⟨_,_,zs,_,_,es,rfl,by omega,he,hb,Z2.P,E2.P,C2.sub⟩⟩;refine(zU hi C2 hl 2).mono ?_;rintro _ h3 ⟨x,rfl,x0,x1,C3,f3⟩;have E3:=E2.cur H C3 f3;obtain⟨x,rfl⟩:=vU x0;have w:IntKind.i64.wrap (65536+(x:Int))=((65536+x:Nat):Int):=zr;have w2:IntKind.i64.wrap ((65536+x:Nat):Int)=((65536+x:Nat):Int):=zr;refine⟨_,rfl,?_⟩;rw[w,w2];refine⟨by omega,by omega,by omega,fun b4 hb4=>?_⟩;rw[vN,RG];have s4:qaB h3 (upd h3 b4 (.cells (ints .u8 (List.replicate (65536+x) 0)) 5)):=Sub.zC hb4;have P4:Part .u8 (upd h3 b4 (.cells (ints .u8 (List.replicate (65536+x) 0)) 5)) (.slice (some ⟨b4,0,none⟩) (List.replicate (65536+x) (0:Int)).length (List.replicate (65536+x) (0:Int)).length) (List.replicate (65536+x) 0):=(Own.made _).part;have lr:(List.replicate (65536+x) (0:Int)).length=65536+x:=uV ..;exact fun _=>⟨_,_,List.replicate (65536+x) 0,_,_,es,by rw[lr],by rw[lr];omega,he,hb,P4,(E3.sub H s4).P,C3.sub.trans s4⟩
theorem Va(hi:qaC S h0)(H:zI h0 h b T code a c)(hl:code.length<=1048576) :
  zb oPP S q9 #[.pointer (some ⟨b,0,none⟩)] h (qu .u8 h0 h b T code a c fun ys=>ys.length<=100/\okB ys):=by
 refine(WO hi H hl).mono fun v h2 D2=>?_
 obtain⟨ad,cd,ds,rfl,hds,D,hb⟩:=J2 D2;exact⟨_,_,ds,rfl,⟨hds,hb⟩,D⟩
theorem Xy(hi:qaC S h)(H:zI h h1 b T code a c)(hl:code.length<=1048576)(Z:GSt .u8 h h1 g b T code a c (.slice az zs.length cz) zs)(hz:zs.length<=40000)(E:GSt .u8 h h1 g b T code a c (.slice ae es.length ce) es)(he:es.length<=100)(hb:okB es)(e0 e3 e4:Value) :
  dzB.wp oPP S yb (WV h) [e0,.pointer (some ⟨b,0,none⟩),.slice ae es.length ce,e3,e4,.slice az zs.length cz] g []:=by
 simp only[dzB,Tr.wp,z4,Ex.ev,coerce,za,zc,ze,zd,zx,Cst.val,SV.den,zn,zL,zz,zk,zi,zy,vF,vG,vA,vB,vC,vD,vE,vI,vH,vJ,vV,vK];refine(xP hi E.C hl 8).mono ?_;rintro _ h2 ⟨t,rfl,C2,f2⟩;have E2:=E.cur H C2 f2;have Z2:=Z.cur H C2 f2;refine⟨_,rfl,fun _=>?_,fun _ _=>Xx hi H hl Z2 hz E2 he hb _ _ _ _ _⟩;refine(Va hi C2 hl).mono ?_;rintro _ h3 ⟨a3,c3,fs,rfl,⟨hf,hfb⟩,F⟩;exact⟨_,_,_,rfl,fun _=>Xx hi H hl (Z2.step H F.C F.F) hz (F.base Z2.F C2.held) hf hfb _ _ _ _ _⟩
theorem SL(hi:qaC S h)(hx:zo h .u8 a code)(hl:code.length<=1048576) :
  zb oPP S AL #[.slice a code.length c] h (WV h):=by
 refine I4 (vs:=[.slice a code.length c]) ⟨rfl,trivial⟩ hi ?_;rw[DZ];simp only[Tr.wp,z4,Ex.ev,coerce,za,zc,ze,zd,zx,Cst.val,SV.den,zn,zL,zz,zk,zi,zy,vF,vG,vA,vB,vC,vD,vE,vI,vH,vJ,vV,vK];refine(RF hi hx hl).mono ?_;rintro _ h1 ⟨b,T,rfl,H⟩;refine⟨_,rfl,?_⟩;refine(Va hi H hl).mono ?_;rintro _ h2 ⟨ad,cd,ds,rfl,⟨hd,hdb⟩,D⟩;refine⟨_,_,_,rfl,?_⟩;refine(WU hi D.C hl D.P (D.ne H) hd).mono ?_;rintro _ h3 ⟨az,cz,zs,rfl,⟨hz1,hz2⟩,Z⟩;have D3:=D.step H Z.C Z.F;have Z3:=Z.base D.F D.C.held;refine⟨_,_,_,rfl,?_⟩;refine(xP hi Z.C hl 3).mono ?_;rintro _ h4 ⟨t,rfl,C4,f4⟩;have D4:=D3.cur H C4 f4;have Z4:=Z3.cur H C4 f4;have Z4':=Z.cur D.C C4 f4;refine⟨_,rfl,fun _=>?_,fun _ _=>Xy hi H hl Z4 (by omega) D4 hd hdb _ _ _⟩;refine(UZ hi D.C hl Z4' hz1 hz2).mono ?_;rintro _ h5 ⟨a5,c5,ys,rfl,hy,Y⟩;have D5:=D.step H Y.C Y.F;exact⟨_,_,_,rfl,fun _=>Xy hi H hl (Y.base D.F D.C.held) hy D5 hd hdb _ _ _⟩
end
variable {ad:Option Addr}{cd:Nat}{u:Value}
section
variable {s:Nat -> Prop}
theorem zaI{x:Int}(hx:0<=x/\x<65536):(Go.bits .and .u32 x 32==0)=decide (x/32%2≠1):=by
 obtain⟨n,rfl⟩:=vU hx.1;have h1:(BitVec.ofInt 32 (n:Int)).toNat=n:=by rw[lM,hH];exact nO (by omega)
 have h2:(BitVec.ofInt 32 (32:Int)).toNat=32:=by decide
 have hb:n &&& 32=(n.testBit 5).toNat*32:=by
  apply Nat.eq_of_testBit_eq;intro i;rw[Nat.testBit_and,show(32:Nat)=2^5 from rfl,Nat.testBit_two_pow];by_cases hi:5=i
  ·subst hi;cases h:n.testBit 5 with
   | false=>simp[h]
   | true=>simp[h];decide
  ·cases h:n.testBit 5
   ·simp[hi]
   ·simp only[Bool.toNat_true,Nat.one_mul];rw[Nat.testBit_two_pow];simp[hi]
 have ht:n.testBit 5=decide (n/32%2=1):=by rw[Nat.testBit_eq_decide_div_mod_eq]
 have hand:Go.bits .and .u32 (n:Int) 32=(((n.testBit 5).toNat*32:Nat):Int):=by
  show IntKind.u32.wrap ((BitVec.ofInt 32 (n:Int) &&& BitVec.ofInt 32 (32:Int)).toNat:Int)=_;rw[BitVec.toNat_and,h1,h2,hb,pT];cases n.testBit 5 <;> simp
 rw[hand,ht];by_cases hc:n/32%2=1
 ·have:((n:Int)/32%2=1):=by omega
  simp[hc,this]
 ·have:¬((n:Int)/32%2=1):=by omega
  simp[hc,this]
theorem RH(h:(zR bs).k≠0):(zD bs ds).1=zR bs:=by
 have e:(zId bs).1=zR bs:=BE h;unfold zD;split
 ·simp only;rw[e,BD h]
 ·rfl
theorem YN(hi:qaC (jz oPP s) h)(G:ErrZ h){bm:Nat}(hx:zo h .u8 a bs)(L:bs.length<=65536)(hb:h bm=none)(sb:qaB h h1)
  (hm:h1 bm=some (zX a c bs ((0:Nat):Int) ⟨.pointer none,.slice none 0 0,100000,false,.pointer none,.pointer none⟩ T))(hd:zo h .u8 ad ds)(hcd:ds.length<=cd)(hdl:ds.length<=1048576)(hdb:okB ds) :
  zb oPP (jz oPP s) qY #[.pointer (some ⟨bm,0,none⟩),.slice ad ds.length cd] h1 (PF h bm a c bs T (xM bs ds)):=by
 refine FD (vs:=[.pointer (some ⟨bm,0,none⟩),.slice ad ds.length cd]) ⟨rfl,rfl,trivial⟩ (hi.sub sb) ?_;simp only[BZ,Tr.wp,z4,Ex.ev,coerce,toInt_int,za,zc,ze,zd,zf,zx,jA,z9,arith,Cst.val,SV.den,zn,zL,zz,zk,zi,zy,zq,vF,vG,vA,vB,vC,vQ,vD,vE,vI,vH,vJ,uC,uG,uD,uB,vW,uL,vV,vK,zu];have eAns:xM bs ds=zA bs (zS (zH bs).2) (zD bs ds).2 (zD bs ds).1:=vM (by omega);have hn:=Px (bs:=bs);refine zb.mono (SB hi G.el.es hx (by omega) 0 (by omega) 2 (by omega) ⟨hm,hb,sb⟩) ?_;rintro _ h2 ⟨p2,hp2,rfl,hr2,rfl⟩;have eH:hig bs 2 ⟨((0:Nat):Int),0⟩ 0=zH bs:=rfl;rw[eH]at hr2 ⊢;have ret:∀(hh:qaA) (p':Nat) (K:Int),p'<=8*bs.length->hh bm=some (zX a c bs p' ⟨.pointer none,.slice none 0 0,100000,false,.pointer none,.pointer none⟩ T)->qaB h hh->K≠0->(zD bs ds).1.k=K->PF h bm a c bs T (xM bs ds) (yh K) hh:=by
  intro hh p' K q1 q2 q3 q4 q5;refine⟨K,p',_,[],none,0,rfl,q2,rfl,Part.nil,fun z hz=>(by cases hz),q3,q1,fun _=>?_,fun h=>absurd h q4⟩;rw[eAns,UC (by rw[q5];exact q4),q5]
 have hm2:∀q:Nat,upd h1 bm (zX a c bs q ⟨.pointer none,.slice none 0 0,100000,false,.pointer none,.pointer none⟩ T) bm=some (zX a c bs q ⟨.pointer none,.slice none 0 0,100000,false,.pointer none,.pointer none⟩ T):=fun q=>upd_same
 have s2:∀q:Nat,qaB h (upd h1 bm (zX a c bs q ⟨.pointer none,.slice none 0 0,100000,false,.pointer none,.pointer none⟩ T)):=fun q=>xJ sb hb
 refine⟨_,_,zg,by rw[zg],fun hz=>?_,fun hz=>?_⟩
 ·rw[zg,zP]at hz;have hk:(zH bs).1.k≠0:=by simpa using hz
  have eR:zR bs=(zH bs).1:=Cg hk;rw[zg];exact ret _ p2 _ hp2 (hm2 p2) (s2 p2) hk (by rw[RH (by rw[eR];exact hk),eR])
 ·rw[zg,zP]at hz;have hk:(zH bs).1.k=0:=by simpa using hz
  rw[vP hk];have e2:=hr2 hk;have ws:Int.fdiv (zH bs).2 (2^min (Int.toNat 8) IntKind.u32.bits)=(zH bs).2/256:=by rw[show(2:Int)^min (Int.toNat 8) IntKind.u32.bits=256 from rfl,lH _ (by omega)]
  have t31:(zH bs).2.tmod 31=(zH bs).2%31:=uA hn.1;have t16:((zH bs).2/256).tmod 16=(zH bs).2/256%16:=uA (by omega);have wq:IntKind.u32.wrap (((zH bs).2/256).tdiv 16)=(zH bs).2/4096:=by
   rw[uQ (by omega),Int.ediv_ediv_of_nonneg (by omega),pT];show(zH bs).2/4096%4294967296=(zH bs).2/4096;clear t31 t16;omega
  have eW:(decide ((decide (((zH bs).2%31 != 0)=true)||(zH bs).2/256%16 != 8)=true)||decide ((zH bs).2/4096>7))=zW (zH bs).2:=by
   unfold zW;simp only[mW]
  rw[ws,t31,t16,wq];simp only[eW];refine⟨fun hw=>?_,fun hw=>?_⟩
  ·have eR:zR bs=⟨(zH bs).1.i,3⟩:=by unfold zR bd;rw[vP ⟨hk,hw⟩]
   refine⟨3,(G.sub (s2 p2)).el.es.e3,?_⟩;exact ret _ p2 3 hp2 (hm2 p2) (s2 p2) (by decide) (by rw[RH (by rw[eR];show(3:Int)≠0;decide),eR])
  ·have hw:zW (zH bs).2=false:=by simpa using hw
   have h7:(zH bs).2/4096<=7:=by
    unfold zW at hw;simp only[lK,vR]at hw;omega
   have eR:zR bs=⟨(p2:Int),0⟩:=by unfold zR bd;rw[vM (fun e=>by rw[hw]at e;cases e.2),e2]
   rw[zaI hn];refine⟨fun hf=>?_,fun hf=>?_⟩
   ·have hf:¬(zH bs).2/32%2=1:=by simpa using hf
    have eD:zD bs ds=(⟨(p2:Int),0⟩,[]):=by unfold zD;rw[vM hf,eR]
    intro _;rw[eAns,eD];have K:=Xk (s:=s) (us:=[]) (au:=none) (cu:=0) hi G hx L p2 hp2 hb (s2 p2) (hm2 p2) hn.1 hn.2 h7 (fun i x hx=>by simp at hx) (uI _) (by simp) Yf;exact K _ _ _
   ·have hf:(zH bs).2/32%2=1:=by simpa using hf
    have eD2:(zD bs ds).2=ds:=by unfold zD;rw[vP hf]
    have eD1:(zD bs ds).1=bdK 5 (decide (ds.length=0)||(yQ 1 ds != (zId bs).2)) (zId bs).1:=by unfold zD;rw[vP hf]
    refine zb.mono (SB hi G.el.es hx (by omega) p2 hp2 4 (by omega) ⟨hm2 p2,hb,s2 p2⟩) ?_;rintro _ h3 ⟨p3,hp3,rfl,hr3,rfl⟩;have eI:hig bs 4 ⟨(p2:Int),0⟩ 0=zId bs:=by unfold zId;rw[eR]
    rw[eI]at hr3 ⊢;rw[xw];refine⟨_,_,zg,by rw[zg],fun hz=>?_,fun hz=>?_⟩
    ·rw[zg,zP]at hz;have hkI:(zId bs).1.k≠0:=by simpa using hz
     rw[zg];exact ret _ p3 _ hp3 (hm2 p3) (s2 p3) hkI (by rw[eD1,BD hkI])
    ·rw[zg,zP]at hz;have hkI:(zId bs).1.k=0:=by simpa using hz
     rw[vP hkI];have e3:=hr3 hkI;have bad:∀hh,hh bm=some (zX a c bs p3 ⟨.pointer none,.slice none 0 0,100000,false,.pointer none,.pointer none⟩ T)->qaB h hh->(decide (ds.length=0)||(yQ 1 ds != (zId bs).2))=true->PF h bm a c bs T (xM bs ds) (yh 5) hh:=fun hh q2 q3 q4=>
      ret hh p3 5 hp3 q2 q3 (by decide) (by rw[eD1];unfold bdK;rw[vP ⟨hkI,q4⟩])
     refine⟨fun hl=>?_,fun hl=>?_⟩
     ·have hl:ds.length≠0:=by simpa using hl
      refine zb.mono (Ch (hi.sub (s2 p3)) 1 ⟨by omega,by omega⟩ ad cd ds hdb (hd.sub (s2 p3)) hcd) ?_;rintro _ h4 ⟨rfl,s4⟩;refine⟨_,rfl,fun _=>⟨fun hne=>?_,fun heq=>?_⟩⟩
      ·have hne:yQ 1 ds≠(zId bs).2:=by simpa using hne
       refine⟨5,(G.sub ((s2 p3).trans s4)).e5,?_⟩;exact bad h4 (s4 _ _ (hm2 p3)) ((s2 p3).trans s4) (by simp[hne])
      ·have heq:yQ 1 ds=(zId bs).2:=by simpa using heq
       have eD:(zD bs ds).1=⟨(p3:Int),0⟩:=by
        rw[eD1];unfold bdK;rw[vM (fun e=>by have:=e.2;simp[heq]at this;exact hl (by simp[this])),e3]
       intro _;rw[eAns,eD,eD2];have K:=Xk (s:=s) (us:=ds) (au:=ad) (cu:=cd) hi G hx L p3 hp3 hb ((s2 p3).trans s4) (s4 _ _ (hm2 p3)) hn.1 hn.2 h7 (hd.sub ((s2 p3).trans s4)) hcd hdl hdb;exact K _ _ _
     ·have hl:ds.length=0:=by simpa using hl
      refine fun _=>⟨fun _=>?_,fun h=>by simp at h⟩
      refine⟨5,(G.sub (s2 p3)).e5,?_⟩;exact bad _ (hm2 p3) (s2 p3) (by simp[hl])
theorem g_impl_Zlib'(hi:qaC (jz oPP s) h)(G:ErrZ h)(E:Cv h)(O:tB.O h v bs)(L:Bf bs)(O2:tB.O h u ds)(L2:Bf ds)(hdb:okB ds) :
  zb oPP (jz oPP s) BL #[v,u] h (PZ h (xM bs ds)):=by
 obtain⟨a,c,rfl,hc,hx⟩:=Part.ints O;obtain⟨a2,c2,rfl,hc2,hx2⟩:=Part.ints O2;have hL:bs.length<=1048576:=L;have hL2:ds.length<=1048576:=L2;refine N9 (vs:=[.slice a bs.length c,.slice a2 ds.length c2]) ⟨rfl,rfl,trivial⟩ hi ?_;simp only[IH,Tr.wp,z4,Ex.ev,coerce,toInt_int,za,zc,ze,zd,zf,z9,arith,Cst.val,SV.den,zn,zL,zz,zk,zi,yF,zy,zq,vF,vG,nN,vA,vB,vL,vR,vD,vE,vI,vH,vJ,uD,uB,vW,vV,vK,zu];refine⟨fun hgt=>?_,fun hle=>?_⟩
 ·have e:xM bs ds=(7,[],0,()):=vP (by omega);rw[e];exact Rp (fun _ _ e=>e)
 intro bm hbm;have K:=YN (s:=s) (T:=64) hi G hx (by omega) hbm (Sub.zC (o:=zX a c bs ((0:Nat):Int) ⟨.pointer none,.slice none 0 0,100000,false,.pointer none,.pointer none⟩ 64) hbm) upd_same hx2 hc2 hL2 hdb;refine zb.mono K ?_;rintro _ h3 ⟨KK,p,m,xs,ao,co,rfl,hb3,eo,P3,N3,s3,hp,hbad,hgood⟩;obtain⟨_,g1,_,g3,_⟩:=yO hb3;rw[eo]at g3;refine⟨_,zg,by rw[zg],fun hz=>?_,fun hz=>?_⟩
 ·rw[zg,zP]at hz;have hk1:KK≠0:=by simpa using hz
  rw[hbad hk1,zg,QZ hk1];refine⟨_,_,_,g3,?_⟩;refine zb.mono (MT (hi.sub s3) (E.sub s3)) ?_;rintro _ h4 ⟨rfl,s4⟩;refine⟨_,rfl,fun pp hpp=>?_,Od (P3.sub s4) N3 (s3.trans s4)⟩;obtain rfl:=uF.1 hpp;simp only[Ex.ev,coerce,zc,ze,zd,zf,vA,vB,uD,uB,zu,zf];exact xF s4 g3
 ·rw[zg,zP]at hz;have hk1:KK=0:=by simpa using hz
  rw[hgood hk1];refine⟨_,_,_,g3,_,g1,?_⟩;have w:IntKind.i64.wrap ((p:Int).tdiv 8)=((p/8:Nat):Int):=by rw[uQ (by omega),i64_in _ (by omega)];omega
  rw[w];exact Od P3 N3 s3
end
section
theorem Vb(hi:qaC S h){more:List Int}(hx:zo h .u8 a more)(hl:more.length<=1048576)(hw:∀x∈more,0<=x/\x<=255)(i:Nat)(h1:i<=100000:=by omega) :
  zb oPP S BK #[.slice a more.length c,.int .i64 i] h (fun v h'=>(∃x,v=.int .i64 x/\0<=x/\x<=255)/\h'=h):=by
 refine NH (vs:=[.slice a more.length c,.int .i64 i]) ⟨rfl,rfl,trivial⟩ hi ?_;simp only[IJ,Tr.wp,Ex.ev,coerce,toInt_int,za,zc,ze,zd,zf,zM,z9,arith,Cst.val,SV.den,zy,zq,vA,vB,vL,vR,vI,vH,vW];refine⟨fun hlt=>?_,fun hge=>?_⟩
 ·have hi3:i<more.length:=by omega
  obtain⟨g1,g2⟩:=hx.cell (vO hi3);have hb:=hw _ (uX hi3);refine⟨by simpa using g2,by omega,hlt,more[i],by simpa[add_add]using g1,?_⟩;rw[i64_in _ (by omega)];exact⟨_,rfl,hb.1,hb.2⟩
 ·rw[i64_in ((i:Int)*47) (by omega),i64_in _ (by omega),uA (by omega)];exact⟨_,rfl,by omega,by omega⟩
end
variable {a0:Option Addr}{c0:Nat}
section
section
theorem Lr(hi:qaC S h)(H1:zo h .u8 a1 xs)(H2:zo h .u8 a2 ys)(hc:ys.length<=c2)(p:xs <+: ys) :
  zb oPP S qH #[.slice a1 xs.length c1,.slice a2 ys.length c2] h (fun v h'=>v=.bool true/\h'=h):=by
 have hl:=p.length_le;have ht:ys.take xs.length=xs:=List.prefix_iff_eq_take.1 p▸rfl;refine I5 (vs:=[.slice a1 xs.length c1,.slice a2 ys.length c2]) ⟨rfl,rfl,trivial⟩ hi ?_;simp only[Ea,Tr.wp,Ex.ev,coerce,toInt_int,za,zc,ze,zd,xW,jI,z9,Cst.val,SV.den,vA,vB,vC,vL,vR,vD,vE,vI,vH,vW];obtain⟨a',e,H'⟩:=wG H2 (lo:=0) (hi:=xs.length) (m:=c2) (gO _) hl;rw[gM,Nat.sub_zero,ht]at e H';rw[vN,e];simp only[zc,zd];exact⟨fun _=>⟨by omega,by omega,⟨xs,rfl,H'.cells (c:=0),xs,rfl,H1.cells (c:=0),fun _=>by simp⟩,xs,rfl,H1.cells (c:=0),xs,rfl,H'.cells (c:=0),fun _=>by simp⟩,fun hn=>absurd (by omega) hn⟩
end
section
variable {s:Nat -> Prop}
theorem zaJ(hi:qaC (jz oPP s) h)(G:ErrZ h)(E:Cv h){code more:List Int}(hx0:zo h .u8 a0 code)(hl0:code.length<=1048576)(hx1:zo h .u8 a1 more)(hl1:more.length<=1048576)(hw1:∀x∈more,0<=x/\x<=255)(s1:qaB h h1)(K0 K1 K2:Kt)(e2 e3 e4 e5 e6 e7 e8 e9 e10 e11 e12 e13 e14 e15 e16 e17 e18 e19:Value) :
  fqZ.wp oPP (jz oPP s) yb (fun v h'=>v=.bool true) [.slice a0 code.length c0,.slice a1 more.length c1,e2,e3,e4,e5,e6,e7,e8,e9,e10,e11,e12,e13,e14,e15,e16,e17,e18,e19] h1 [K0,K1,K2]:=by
 simp only[fqZ,Tr.wp,z4,Ex.ev,coerce,toInt_int,za,zc,ze,zd,jA,xW,jI,z9,arith,Cst.val,SV.den,zn,zL,zz,zk,zi,zy,vF,vG,vA,vB,vC,vQ,vL,vD,vE,vI,vH,vJ,uC,uG,uD,uL,vV,vK];have i1:=hi.sub s1;refine(SL i1 (hx0.sub s1) hl0).mono ?_;rintro _ h2 ⟨az,cz,zs,ad,cd,ds,rfl,hz,hd,hdb,OZ,OD,s2⟩;have i2:=i1.sub s2;obtain⟨_,_,ez,hcz,hz2⟩:=Part.ints OZ;cases ez
 refine⟨_,_,_,_,_,_,rfl,fun _=>by simp,fun hg=>?_⟩;have hz3:1<=zs.length/\zs.length<=3000:=by
  simp at hg;have:=List.length_pos_iff.2 hg.2;omega
 refine(Vb i2 (hx1.sub (s1.trans s2)) hl1 hw1 1).mono ?_;rintro _ hq ⟨⟨x,rfl,x0,x1⟩,rfl⟩;obtain⟨q,hq0,hq1⟩:∃q:Nat,x.tmod (zs.length:Int)=q/\q<zs.length:=by
  rw[uA x0];have g1:=Int.emod_nonneg x (show(zs.length:Int)≠0 by omega);have g2:=Int.emod_lt_of_pos x (show(0:Int)<zs.length by omega);exact⟨(x%zs.length).toNat,by omega,by omega⟩
 have hz0:(zs.length:Int)≠0:=by omega
 refine⟨_,rfl,by simpa using hz0,?_⟩;rw[hq0];refine⟨by omega,by omega,?_⟩;rw[vN];have G2:=G.sub (s1.trans s2);have E2:=E.sub (s1.trans s2);obtain⟨a3,c3,e3,P3,_,_⟩:=Part.FA (h0:=fun _=>none) OZ (fun y _=>rfl) (n:=q) (m:=cz) (by omega) (by omega) (uI _);rw[e3];have lt3:(zs.take q).length<=3000:=by rw[pK];omega
 have LZ:Bf zs:=show zs.length<=1048576 by omega
 have LD:Bf ds:=show ds.length<=1048576 by omega
 refine zb.mono (g_impl_Zlib' i2 G2 E2 (bs:=zs.take q) P3 (show(zs.take q).length<=1048576 by omega) OD LD hdb) ?_;rintro _ h4 ⟨O4,N4,s4⟩;obtain⟨u4,rfl,Q4⟩:=CK O4;obtain⟨a4,c4,rfl,_,g4⟩:=Part.ints (show Part .u8 h4 u4 _ from Q4);refine⟨_,_,_,_,_,rfl,?_⟩;have i4:=i2.sub s4;have OZ4:tB.O h4 (.slice az zs.length cz) zs:=Ty.kN OZ s4;have OD4:tB.O h4 (.slice ad ds.length cd) ds:=Ty.kN OD s4;refine zb.mono (g_spec_Zlib' i4 OZ4 LZ OD4 LD) ?_;rintro _ h5 ⟨O5,N5,s5⟩;obtain⟨u5,rfl,Q5⟩:=CK O5;obtain⟨a5,c5,rfl,hc5,g5⟩:=Part.ints (show Part .u8 h5 u5 _ from Q5);refine⟨_,_,_,_,_,rfl,?_⟩;have i5:=i4.sub s5;have pre:(xM (zs.take q) ds).2.1 <+: (xM zs ds).2.1:=by
  have:=ZW (bs:=zs.take q) (ex:=zs.drop q) (ds:=ds) (by rw[pZ];omega);rwa[pZ]at this
 refine(Lr i5 (g4.sub s5) g5 hc5 pre).mono ?_;rintro _ hr ⟨rfl,er⟩;subst er;refine⟨_,rfl,fun _=>?_,fun e=>by cases e⟩;have s15:=(s1.trans s2).trans (s4.trans s5);refine zb.mono (g_impl_Zlib' i5 (G.sub s15) (E.sub s15) (Ty.kN OZ4 s5) LZ (Ty.kN OD4 s5) LD hdb) ?_;rintro _ h6 ⟨O6,N6,s6⟩;obtain⟨u6,rfl,Q6⟩:=CK O6;obtain⟨a6,c6,rfl,_,g6⟩:=Part.ints (show Part .u8 h6 u6 _ from Q6);refine⟨_,_,_,_,_,rfl,?_⟩;have i6:=i5.sub s6;refine zb.mono (g_spec_Zlib' i6 (Ty.kN (Ty.kN OZ4 s5) s6) LZ (Ty.kN (Ty.kN OD4 s5) s6) LD) ?_;rintro _ h7 ⟨O7,N7,s7⟩;obtain⟨u7,rfl,Q7⟩:=CK O7;obtain⟨a7,c7,rfl,_,g7⟩:=Part.ints (show Part .u8 h7 u7 _ from Q7);refine⟨_,_,_,_,_,rfl,?_⟩;refine(HI (i6.sub s7) (g6.sub s7) g7).mono ?_;rintro _ hr2 ⟨rfl,er⟩;exact⟨_,rfl,by simp[jv]⟩
theorem wf_i64{n:Int}(h0:0<=n)(h1:n<=1000000):(Lit.int .i64 n).wf=true:=by
 have e1:IntKind.i64.min = -9223372036854775808:=by rfl
 have e2:IntKind.i64.max=9223372036854775807:=by rfl
 simp[Lit.wf,e1,e2];omega
theorem Vd(hi:qaC S h)(O:tB.O h v bs)(hl:65536<bs.length)(n:Int)(O2:tB.O h u ds) :
  zb oPP S jJ #[v,.int .i64 n,u] h (fun v h'=>(∃a c,v=.agg #[.int .i64 7,.slice a 0 c,.int .i64 0])/\qaB h h'):=by
 obtain⟨a,c,rfl,hc,hx⟩:=Part.ints O;obtain⟨a2,c2,rfl,hc2,hx2⟩:=Part.ints O2;refine Dp (vs:=[.slice a bs.length c,.int .i64 n,.slice a2 ds.length c2]) ⟨rfl,rfl,rfl,trivial⟩ hi ?_;simp only[Bz,Tr.wp,z4,Ex.ev,coerce,toInt_int,za,zc,ze,zd,zf,zx,jA,z9,Cst.val,SV.den,zn,zL,zz,zk,zi,yF,zy,zq,vF,vG,nN,vA,vB,vL,vR,vD,vE,vI,vH,vJ,uD,uB,vW,vV,vK,zu];exact⟨fun _=>⟨⟨_,_,rfl⟩,fun _ _ e=>e⟩,fun hle=>absurd (by omega) hle⟩
theorem zaK(hi:qaC (jz oPP s) h)(G:ErrZ h)(E:Cv h){code more:List Int}(hx0:zo h .u8 a0 code)(hl0:code.length<=1048576)(hx1:zo h .u8 a1 more)(hl1:more.length<=1048576)(hw1:∀x∈more,0<=x/\x<=255)(s1:qaB h h1)
  {ab ad a9:Option Addr}{cb cd c9:Nat}(OB:tB.O h1 (.slice ab bs.length cb) bs)(lb:1<=bs.length/\bs.length<=3000)(OD:tB.O h1 (.slice ad ds.length cd) ds)(ld:ds.length<=100){n:Int}(n0:0<=n)(n1:n<=32769){X:kT}(hX:X=zK bs n ds)(g9:zo h1 .u8 a9 X.2.1)(K0 K1 K2:Kt)(e5 e6 e7 e11 e12 e13 e14 e15 e16 e17 e18 e19:Value) :
  fqY.wp oPP (jz oPP s) yb (fun v h'=>v=.bool true) [.slice a0 code.length c0,.slice a1 more.length c1,.slice ab bs.length cb,.int .i64 n,.slice ad ds.length cd,e5,e6,e7,.int .i64 X.1,.slice a9 X.2.1.length c9,.int .i64 X.2.2.1,e11,e12,e13,e14,e15,e16,e17,e18,e19] h1 [K0,K1,K2]:=by
 simp only[fqY,Tr.wp,z4,Ex.ev,coerce,toInt_int,za,zc,ze,zd,jA,xW,jI,z9,arith,Cst.val,SV.den,zn,zL,zz,zk,zi,zy,vF,vG,vA,vB,vC,vQ,vL,vR,vD,vE,vI,vH,vJ,uD,vV,vK];have i1:=hi.sub s1;have fin:∀ {hh:qaA},qaB h1 hh->∀(e2 e3 e4 e5 e6 e7 e8 e9 e10 e11 e12 e13 e14 e15 e16 e17 e18 e19:Value),fqZ.wp oPP (jz oPP s) yb (fun v h'=>v=.bool true) [.slice a0 code.length c0,.slice a1 more.length c1,e2,e3,e4,e5,e6,e7,e8,e9,e10,e11,e12,e13,e14,e15,e16,e17,e18,e19] hh [K0,K1,K2]:=fun sh=>
  zaJ hi G E hx0 hl0 hx1 hl1 hw1 (s1.trans sh) K0 K1 K2
 refine⟨fun h8 b3 hb3=>?_,fun _ _=>fin (fun _ _ e=>e) _ _ _ _ _ _ _ _ _ _ _ _ _ _ _ _ _ _⟩;have h8:X.1=1:=by simpa using h8
 obtain⟨q0,q1⟩:=WK (bs:=bs) (n:=n) (ds:=ds) (by rw[<-hX];exact h8);rw[<-hX]at q0 q1;obtain⟨q,hq,hq2⟩:∃q:Nat,IntKind.i64.wrap ((IntKind.i64.wrap (X.2.2.1+7)).tdiv 8)=q/\(q:Int)=(X.2.2.1+7)/8:=by
  rw[i64_in (X.2.2.1+7) (by omega),uQ (by omega),i64_in _ (by omega)];exact⟨((X.2.2.1+7)/8).toNat,by omega,by omega⟩
 have hql:q<=bs.length:=by omega
 obtain⟨_,_,eb,hcb,hb9⟩:=Part.ints OB;cases eb
 rw[hq];refine⟨by omega,by omega,?_⟩;rw[vN];have t3:qaB h1 (upd h1 b3 (.cells #[] 5)):=Sub.zC hb3;have P0:Part .u8 (upd h1 b3 (.cells #[] 5)) (.slice (some ⟨b3,0,none⟩) 0 0) []:=(Own.made (k:=.u8) []).part;obtain⟨a4,e4,H4⟩:=wG hb9 (lo:=0) (hi:=q) (m:=cb) (gO _) hql;rw[gM,Nat.sub_zero]at e4 H4;rw[e4];have lt4:(bs.take q).length=q:=by rw[pK];omega
 refine yA i1 t3 P0 (New.of hb3) (H4.sub t3) (by simp only[uG];omega) fun v' h2 o2 n2 s2 _ _=>?_
 obtain⟨a5,c5,rfl,_,_⟩:=o2.ints;simp only[zd,zc,ze];rw[vH]at o2 n2 ⊢;refine yA i1 s2 o2 n2 (hx1.sub (s1.trans s2)) (by omega) fun v' h3 o3 n3 s3 _ _=>?_
 obtain⟨C,hC⟩:∃C,C=bs.take q++more:=⟨_,rfl⟩;rw[<-hC]at o3;have lC:C.length=q+more.length:=by rw[hC,vY,lt4]
 obtain⟨a6,c6,rfl,_,_⟩:=o3.ints;simp only[zd,zc,ze];have i3:=i1.sub s3;have s13:=s1.trans s3;by_cases hbig:65536<C.length
 ·refine zb.mono (Vd i3 (bs:=C) o3 hbig n (Ty.kN OD s3)) ?_;rintro _ h4 ⟨⟨a7,c7,rfl⟩,s4⟩;exact⟨_,_,_,_,_,rfl,fun hm=>absurd hm (by omega),fun _ _=>⟨fun e=>e.elim,fun _ _=>fin (s3.trans s4) _ _ _ _ _ _ _ _ _ _ _ _ _ _ _ _ _ _⟩⟩
 refine zb.mono (BC i3 (G.sub s13).el (E.sub s13) (bs:=C) o3 (show C.length<=1048576 by omega) n (wf_i64 n0 (by omega)) (Ty.kN OD s3) (show ds.length<=1048576 by omega)) ?_;rintro _ h4 ⟨O4,N4,s4⟩;obtain⟨u4,rfl,Q4⟩:=Ef O4;obtain⟨a7,c7,rfl,_,g7⟩:=Part.ints (show Part .u8 h4 u4 _ from Q4);have s14:=s3.trans s4;refine⟨_,_,_,_,_,rfl,fun hm=>?_,fun _ _=>⟨fun e=>e.elim,fun _ _=>fin s14 _ _ _ _ _ _ _ _ _ _ _ _ _ _ _ _ _ _⟩⟩;have eA:zK C n ds=X:=by
  rw[hC,hX];exact(YJ (by rw[<-hX];exact h8) (by rw[<-hX];exact hq2) (by rw[<-hC];omega)).2
 rw[eA]at g7 ⊢;refine⟨fun _=>?_,fun e=>by simp[h8]at e⟩;refine(HI (i1.sub s14) g7 (g9.sub s14)).mono ?_;rintro _ hr ⟨rfl,er⟩;subst er;refine⟨_,rfl,fun _=>⟨fun e=>by simp at e,fun _ _=>fin s14 _ _ _ _ _ _ _ _ _ _ _ _ _ _ _ _ _ _⟩⟩
theorem Qe(hi:qaC (jz oPP s) h)(G:ErrZ h)(E:Cv h)(a0:Option Addr)(c0:Nat)(code:List Int)(hx0:zo h .u8 a0 code)(hl0:code.length<=maxLen)(hw0:∀x∈code,(Lit.int .u8 x).wf=true)(a1:Option Addr)(c1:Nat)(more:List Int)(hx1:zo h .u8 a1 more)(hl1:more.length<=maxLen)(hw1:∀x∈more,(Lit.int .u8 x).wf=true) :
  zb oPP (jz oPP s) Cz #[.slice a0 code.length c0,.slice a1 more.length c1] h (fun v h'=>v=.bool true):=by
 refine G0 (vs:=[.slice a0 code.length c0,.slice a1 more.length c1]) ⟨rfl,rfl,trivial⟩ hi ?_;rw[CF];simp only[Tr.wp,z4,Ex.ev,coerce,toInt_int,za,zc,ze,zd,jA,xW,jI,z9,arith,Cst.val,SV.den,zn,zL,zz,zk,zi,zy,vF,vG,vA,vB,vC,vQ,vL,vD,vE,vI,vH,vJ,uC,uG,uD,uL,vV,vK];refine⟨fun _=>trivial,fun hsm=>?_⟩;have hl:code.length<=1048576/\more.length<=1048576:=by simp at hsm;omega
 have hwm:∀x∈more,0<=x/\x<=255:=fun x hx=>by
  have h:=hw1 x hx;have e1:IntKind.u8.min=0:=by rfl
  have e2:IntKind.u8.max=255:=by rfl
  simp[Lit.wf,e1,e2]at h;omega
 refine(NK hi hx0 hl.1).mono ?_;rintro _ h1 ⟨ab,cb,bs,ad,cd,ds,n,rfl,hb,hd,n0,n1,OB,OD,s1⟩;obtain⟨_,_,eb,hcb,_⟩:=Part.ints OB;cases eb
 refine⟨_,_,_,_,_,_,_,rfl,fun _=>by simp,fun hg=>?_⟩;have lb:1<=bs.length/\bs.length<=3000:=by
  simp at hg;have:=List.length_pos_iff.2 hg.2;omega
 have LB:Bf bs:=show bs.length<=1048576 by omega
 have LD:Bf ds:=show ds.length<=1048576 by omega
 have wn:=wf_i64 n0 (show n<=1000000 by omega);have i1:=hi.sub s1;refine zb.mono (BC i1 (G.sub s1).el (E.sub s1) OB LB n wn OD LD) ?_;rintro _ h2 ⟨O2,N2,s2⟩;obtain⟨X,hX⟩:∃X,X=zK bs n ds:=⟨_,rfl⟩;rw[<-hX]at O2;obtain⟨u2,rfl,Q2⟩:=Ef O2;obtain⟨a2,c2,rfl,_,g2⟩:=Part.ints (show Part .u8 h2 u2 _ from Q2);refine⟨_,_,_,_,_,rfl,?_⟩;have i2:=i1.sub s2;refine zb.mono (Fi i2 (Ty.kN OB s2) LB n wn (Ty.kN OD s2) LD) ?_;rintro _ h3 ⟨O3,N3,s3⟩;rw[<-hX]at O3;obtain⟨u3,rfl,Q3⟩:=Ef O3;obtain⟨a3,c3,rfl,hc3,g3⟩:=Part.ints (show Part .u8 h3 u3 _ from Q3);refine⟨_,_,_,_,_,rfl,?_⟩;have s13:=s1.trans (s2.trans s3);refine(Vb (hi.sub s13) (hx1.sub s13) hl.2 hwm 0).mono ?_;rintro _ hq ⟨⟨x,rfl,x0,x1⟩,rfl⟩;obtain⟨q,hq0,hq1⟩:∃q:Nat,x.tmod (bs.length:Int)=q/\q<bs.length:=by
  rw[uA x0];have g1:=Int.emod_nonneg x (show(bs.length:Int)≠0 by omega);have g2:=Int.emod_lt_of_pos x (show(0:Int)<bs.length by omega);exact⟨(x%bs.length).toNat,by omega,by omega⟩
 have hb0:(bs.length:Int)≠0:=by omega
 refine⟨_,rfl,by simpa using hb0,?_⟩;rw[hq0];refine⟨by omega,by omega,?_⟩;rw[vN];have OB3:tB.O hq (.slice ab bs.length cb) bs:=Ty.kN (Ty.kN OB s2) s3;have OD3:tB.O hq (.slice ad ds.length cd) ds:=Ty.kN (Ty.kN OD s2) s3;obtain⟨a4,c4,e4,P4,_,_⟩:=Part.FA (h0:=fun _=>none) OB3 (fun y _=>rfl) (n:=q) (m:=cb) (by omega) (by omega) (uI _);rw[e4];have lt4:(bs.take q).length<=3000:=by rw[pK];omega
 refine zb.mono (BC (hi.sub s13) (G.sub s13).el (E.sub s13) (bs:=bs.take q) P4 (show(bs.take q).length<=1048576 by omega) n wn OD3 LD) ?_;rintro _ h5 ⟨O5,N5,s5⟩;obtain⟨u5,rfl,Q5⟩:=Ef O5;obtain⟨a5,c5,rfl,_,g5⟩:=Part.ints (show Part .u8 h5 u5 _ from Q5);have pre:(zK (bs.take q) n ds).2.1 <+: X.2.1:=by
  have:=YI (bs:=bs.take q) (ex:=bs.drop q) (n:=n) (ds:=ds) (by rw[pZ];omega);rw[pZ]at this;rw[hX];exact this
 refine⟨_,_,_,_,_,rfl,?_⟩;have s15:=s13.trans s5;refine⟨fun _=>?_,fun e=>by simp at e⟩;refine(HI (hi.sub s15) (g2.sub (s3.trans s5)) (g3.sub s5)).mono ?_;rintro _ hr ⟨rfl,er⟩;subst er;refine⟨_,rfl,fun _=>?_,fun e=>by simp at e⟩;refine(Lr (hi.sub s15) g5 (g3.sub s5) hc3 pre).mono ?_;rintro _ hr2 ⟨rfl,er⟩;subst er;exact⟨_,rfl,fun _=>⟨fun e=>by simp at e,fun _=>zaK hi G E hx0 hl.1 hx1 hl.2 hwm s15 (Ty.kN OB3 s5) lb (Ty.kN OD3 s5) hd n0 n1 hX (g3.sub s5) _ _ _ _ _ _ _ _ _ _ _ _ _ _ _⟩⟩
end
end
end
end Go.Proofs.YtopmdepgpabipaaGreatDoor
