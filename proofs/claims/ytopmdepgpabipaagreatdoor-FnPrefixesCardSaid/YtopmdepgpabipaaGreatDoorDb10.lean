import Derived.IntWalk
import Derived.Test.YtopmdepgpabipaaGreatDoorDb3
import Derived.Test.YtopmdepgpabipaaGreatDoorDb4
import Derived.Test.YtopmdepgpabipaaGreatDoorDb5
import Derived.Test.YtopmdepgpabipaaGreatDoorDb6
import Derived.Test.YtopmdepgpabipaaGreatDoorDb7
import Derived.Test.YtopmdepgpabipaaGreatDoorDb8
import Derived.Test.YtopmdepgpabipaaGreatDoorDb9
set_option maxRecDepth 100000
set_option maxHeartbeats 8000000
set_option linter.unusedVariables false
set_option linter.unusedSimpArgs false
set_option linter.unusedSectionVars false
namespace Go.Proofs.YtopmdepgpabipaaGreatDoor
open Go Go.Eng Go.IntWalk
section
variable {A B C al all bs:List Int}{F L dl i n p room s sz tot:Nat}{cd cl cs:List (Nat×Nat)}{w:Bool}{x:Int}{r:Rd}
section
theorem WI(h:i/8<A.length):xu (A++C) i=xu A i:=by
 unfold xu;rw[List.getD_eq_getElem?_getD,List.getD_eq_getElem?_getD,List.getElem?_append_left h]
theorem Ek:∀ {n:Nat},p+n<=8*A.length->yg (A++C) p n=yg A p n
 | 0,_=>rfl
 | n+1,h=>by rw[yg,yg,Ek (n:=n) (by omega),WI (by omega)]
theorem Lh{p a:Nat}:∀ {d:Nat},yg B p (a+d)=yg B p a+2^a*yg B (p+a) d
 | 0=>by simp[yg]
 | d+1=>by
  rw[<-Nat.add_assoc,yg,Lh (d:=d),yg,Int.mul_add,Int.pow_add,Nat.add_assoc,Int.add_assoc];congr 2
  ac_rfl
theorem UJ{p a d:Nat}:(yg B p (a+d)).toNat%2^a=(yg B p a).toNat:=by
 have h1:=qS (xs:=B) (a:=p) (n:=a);have h2:=qS (xs:=B) (a:=p) (n:=a+d);have h3:yg B p (a+d)%2^a=yg B p a:=by
  rw[Lh,Int.add_mul_emod_self_left];exact Int.emod_eq_of_lt h1.1 h1.2
 have h4:(((yg B p (a+d)).toNat%2^a:Nat):Int)=((yg B p a).toNat:Int):=by
  push_cast
  rw[Int.toNat_of_nonneg h2.1,Int.toNat_of_nonneg h1.1];exact h3
 exact_mod_cast h4
def Beh(L:Nat)(x y:Rd):Prop:=x.k=2/\(y.k=0->8*(L:Int)<y.i)
theorem Beh.ne{x y:Rd}(H:Beh L x y):x.k≠0:=by rw[H.1];decide
theorem Beh.le{x y z:Rd}(H:Beh L x y)(h:le2 y z):Beh L x z:=⟨H.1,fun hz=>by
 obtain⟨h1,h2⟩:=h hz
 have:=H.2 h1
 omega⟩
theorem Beh.eq{x x' y:Rd}(H:Beh L x y)(h:x'=x):Beh L x' y:=h▸H
section
variable {ex : List Int}
theorem j5(ok:okR bs r):tk bs n r=tk (bs++ex) n r\/Beh bs.length (tk bs n r).1 (tk (bs++ex) n r).1:=by
 unfold tk;by_cases h0:r.k=0
 ·rw[if_pos h0,if_pos h0];have ho:=ok h0;by_cases h1:r.i+n>8*(bs.length:Int)
  ·rw[if_pos h1];split
   ·exact .inl rfl
   ·exact .inr ⟨rfl,fun _=>h1⟩
  ·rw[if_neg h1,if_neg (by rw[List.length_append];omega),Ek (by omega)];exact .inl rfl
 ·rw[if_neg h0,if_neg h0];exact .inl rfl
theorem Mu(h:r.k≠0):sy bs cs r=(r,0):=by unfold sy;rw[if_neg h]
theorem js(h:r.k≠0):bd w r=r:=by unfold bd;rw[if_neg fun e=>h e.1]
theorem ZT{al d:List Int}(h:r.k≠0):tell dl room r al d=(r,al):=by unfold tell;rw[if_neg h]
theorem Ru{cs:List (Nat×Nat)}{b b' L d:Nat}(hb:b'%2^L=b):∀ {f l:Nat},f+l=L+1 ->
  nxt cs b f l=nxt cs b' (f+d) l\/(nxt cs b f l=(2,0,0)/\((nxt cs b' (f+d) l).1=1->(L:Int)<(nxt cs b' (f+d) l).2.2))
 | 0,l,h=>by
  refine .inr ⟨rfl,fun h1=>?_⟩;rcases Ho (cs:=cs) (b:=b') (f:=0+d) (l:=l) trivial with⟨_,_,_,g,_⟩ | ⟨g,_⟩
  ·omega
  ·omega
 | f+1,l,h=>by
  have hl:l<=L:=by omega
  have e:b%2^l=b'%2^l:=by rw[<-hb,Nat.mod_mod_of_dvd _ (Nat.pow_dvd_pow 2 hl)]
  have ih:=Ru (cs:=cs) hb (d:=d) (f:=f) (l:=l+1) (by omega);rw[show f+1+d=f+d+1 by omega];simp only[nxt,e];split
  ·exact .inl rfl
  ·split
   ·exact ih
   ·exact .inl rfl
theorem PN(ok:okR bs r):sy bs cs r=sy (bs++ex) cs r\/Beh bs.length (sy bs cs r).1 (sy (bs++ex) cs r).1:=by
 by_cases h0:r.k=0
 ·have ho:=ok h0;obtain⟨d,hd⟩:∃d,look (bs++ex) r.i.toNat=look bs r.i.toNat+d:=⟨look (bs++ex) r.i.toNat-look bs r.i.toNat,by unfold look;rw[List.length_append];omega⟩;have hL:r.i.toNat+look bs r.i.toNat<=8*bs.length:=by unfold look;omega
  have hb:(yg (bs++ex) r.i.toNat (look bs r.i.toNat+d)).toNat%2^look bs r.i.toNat=(yg bs r.i.toNat (look bs r.i.toNat)).toNat:=by
   rw[UJ,Ek hL]
  have K:=Ru (cs:=cs) hb (d:=d) (f:=look bs r.i.toNat+1) (l:=0) (by omega);have eB:nxB (bs++ex) cs r.i.toNat=nxt cs (yg (bs++ex) r.i.toNat (look bs r.i.toNat+d)).toNat (look bs r.i.toNat+1+d) 0:=by
   unfold nxB;rw[hd,show look bs r.i.toNat+d+1=look bs r.i.toNat+1+d by omega]
  have eA:nxB bs cs r.i.toNat=nxt cs (yg bs r.i.toNat (look bs r.i.toNat)).toNat (look bs r.i.toNat+1) 0:=rfl;rw[<-eA,<-eB]at K;by_cases h15:look bs r.i.toNat=15
  ·have hd0:d=0:=by unfold look at hd h15;rw[List.length_append]at hd;omega
   subst hd0;have e1:(yg (bs++ex) r.i.toNat (look bs r.i.toNat+0)).toNat=(yg bs r.i.toNat (look bs r.i.toNat)).toNat:=by
    rw[Nat.add_zero,Ek hL]
   rw[e1,Nat.add_zero,<-eA]at eB;left;unfold sy;rw[eB]
  ·have hl8:look bs r.i.toNat=8*bs.length-r.i.toNat:=by unfold look at h15 ⊢;omega
   unfold sy;rw[if_pos h0,if_pos h0];rcases K with e | ⟨e,g⟩
   ·rw[e];exact .inl rfl
   ·right;rw[e];refine⟨rfl,fun hk=>?_⟩;simp only at hk ⊢;rcases wh (bs:=bs++ex) (cs:=cs) (i:=r.i.toNat)with⟨h1,_⟩ | ⟨h1,_⟩
    ·have:=g h1;omega
    ·rcases h1 with h1 | h1 <;> simp[h1]at hk
 ·rw[Mu h0,Mu h0];exact .inl rfl
end
def S2(L:Nat)(x y:Rd×List Int):Prop:=x=y\/(Beh L x.1 y.1/\x.2 <+: y.2)
section
variable {ex : List Int}
theorem FT{d:List Int}:al <+: (tell dl room r al d).2:=by
 unfold tell;split
 ·split
  ·exact List.prefix_refl _
  ·exact List.prefix_append _ _
 ·exact List.prefix_refl _
theorem Rv(h:r.k≠0):stL bs dl room n r al=(r,al):=by
 cases n with
 | zero=>rfl
 | succ n=>rw[stL,if_neg h]
theorem Iq:∀ {n:Nat} {r:Rd} {al:List Int},al <+: (stL bs dl room n r al).2
 | 0,r,al=>List.prefix_refl _
 | n+1,r,al=>by
  unfold stL;split
  ·exact FT.trans Iq
  ·exact List.prefix_refl _
theorem Rw:∀ {n:Nat} {r:Rd} {al:List Int},okR bs r->S2 bs.length (stL bs dl room n r al) (stL (bs++ex) dl room n r al)
 | 0,r,al,_=>.inl rfl
 | n+1,r,al,ok=>by
  unfold stL;by_cases h0:r.k=0
  ·rw[if_pos h0,if_pos h0];rcases j5 (ex:=ex) (n:=8) ok with e | B
   ·rw[<-e];exact Rw (wN (y7 ok))
   ·rw[ZT B.ne,Rv B.ne];exact .inr ⟨B.le (AA.trans KF),FT.trans Iq⟩
  ·rw[if_neg h0,if_neg h0];exact .inl rfl
theorem Y0(ok:okR bs r):S2 bs.length (stF bs dl room r al) (stF (bs++ex) dl room r al):=by
 have B1:∀ {x:Rd},stR bs r=x->Beh bs.length x (stR (bs++ex) r)->S2 bs.length (stF bs dl room r al) (stF (bs++ex) dl room r al):=fun e B=>by
  unfold stF;rw[e,Rv B.ne];exact .inr ⟨B.le KF,Iq⟩
 rcases j5 (ex:=ex) (n:=16) (Bg ok)with e | B
 ·rcases j5 (ex:=ex) (n:=16) (y7 (n:=16) (Bg ok))with e2 | B
  ·have eN:stN bs r=stN (bs++ex) r:=by unfold stN;rw[e]
   have eR:stR bs r=stR (bs++ex) r:=by unfold stR;rw[<-e,<-e2,eN]
   unfold stF;rw[<-eN,<-eR];exact Rw (jC (y7 (y7 (Bg ok))))
  ·refine B1 (x:=(tk bs 16 (tk bs 16 (alg r)).1).1) (by unfold stR;rw[js B.ne]) ?_;unfold stR;rw[<-e];exact B.le xj
 ·have e2:tk bs 16 (tk bs 16 (alg r)).1=((tk bs 16 (alg r)).1,0):=AD B.ne;refine B1 (x:=(tk bs 16 (alg r)).1) (by unfold stR;rw[e2,js B.ne]) ?_;unfold stR;exact B.le (xq.trans xj)
theorem Mv:al <+: (cpF bs cd dl room sz r al s).2:=by
 unfold cpF;split
 ·exact List.prefix_refl _
 ·split
  ·exact List.prefix_refl _
  ·exact FT
theorem Y3:le2 (cp3 bs cd r s) (cpF bs cd dl room sz r al s).1:=by
 have h5:le2 (cp3 bs cd r s) (cp5 bs cd sz r al s):=xq.trans xj;unfold cpF;split
 ·exact le2.refl
 ·split
  ·exact h5
  ·exact h5.trans AA
theorem YA(h:¬(cp3 bs cd r s).k≠0):le2 (cp4 bs cd r s).1 (cpF bs cd dl room sz r al s).1:=by
 have h5:le2 (cp4 bs cd r s).1 (cp5 bs cd sz r al s):=xj;unfold cpF;rw[if_neg h];split
 ·exact h5
 ·exact h5.trans AA
theorem YB(ok:okR bs r):S2 bs.length (cpF bs cd dl room sz r al s) (cpF (bs++ex) cd dl room sz r al s):=by
 have B3:∀(x:Rd),cp3 bs cd r s=x->Beh bs.length x (cp3 (bs++ex) cd r s)->S2 bs.length (cpF bs cd dl room sz r al s) (cpF (bs++ex) cd dl room sz r al s):=fun x e B=>by
  have ec:cpF bs cd dl room sz r al s=(x,al):=by unfold cpF;rw[e,if_pos B.ne]
  rw[ec];exact .inr ⟨B.le Y3,Mv⟩
 rcases j5 (ex:=ex) (n:=(yL s).2) ok with e1 | B
 ·have e1:cp1 bs r s=cp1 (bs++ex) r s:=e1;rcases PN (ex:=ex) (cs:=cd) (r:=(cp1 bs r s).1) (y7 ok)with e2 | B
  ·have e2:cp2 bs cd r s=cp2 (bs++ex) cd r s:=by unfold cp2;rw[<-e1];exact e2
   have e3:cp3 bs cd r s=cp3 (bs++ex) cd r s:=by unfold cp3;rw[e2]
   by_cases hk:(cp3 bs cd r s).k≠0
   ·left;unfold cpF;rw[<-e3,if_pos hk,if_pos hk]
   ·have ok3:okR bs (cp3 bs cd r s):=jC (qk (y7 ok));rcases j5 (ex:=ex) (n:=(yW (cp2 bs cd r s).2.toNat).2) ok3 with e4 | B
    ·have e4:cp4 bs cd r s=cp4 (bs++ex) cd r s:=by unfold cp4;rw[<-e2,<-e3];exact e4
     have eD:yE bs cd r s=yE (bs++ex) cd r s:=by unfold yE;rw[e2,e4]
     have eL:jr bs r s=jr (bs++ex) r s:=by unfold jr;rw[e1]
     have e5:cp5 bs cd sz r al s=cp5 (bs++ex) cd sz r al s:=by unfold cp5;rw[eD,e4]
     left;unfold cpF;rw[e3,e5,eD,eL]
    ·have B:Beh bs.length (cp4 bs cd r s).1 (cp4 (bs++ex) cd r s).1:=by
      have:cp4 (bs++ex) cd r s=tk (bs++ex) (yW (cp2 bs cd r s).2.toNat).2 (cp3 bs cd r s):=by unfold cp4;rw[<-e2,<-e3]
      rw[this];exact B
     have e5:cp5 bs cd sz r al s=(cp4 bs cd r s).1:=by unfold cp5;rw[js B.ne]
     have ec:cpF bs cd dl room sz r al s=((cp4 bs cd r s).1,al):=by unfold cpF;rw[if_neg hk,e5,if_pos B.ne]
     rw[ec];exact .inr ⟨B.le (YA (by rw[<-e3];exact hk)),Mv⟩
  ·have B:Beh bs.length (cp2 bs cd r s).1 (cp2 (bs++ex) cd r s).1:=by
    have:cp2 (bs++ex) cd r s=sy (bs++ex) cd (cp1 bs r s).1:=by unfold cp2;rw[<-e1]
    rw[this];exact B
   exact B3 _ (by unfold cp3;rw[js B.ne]) (B.le xj)
 ·have B:Beh bs.length (cp1 bs r s).1 (cp1 (bs++ex) r s).1:=B;have e2:cp2 bs cd r s=((cp1 bs r s).1,0):=Mu B.ne;exact B3 (cp1 bs r s).1 (by unfold cp3;rw[e2,js B.ne]) (B.le (FK.trans xj))
theorem Rx:al <+: (sy1 bs cd dl room sz r al x).2:=by
 unfold sy1;split
 ·exact FT
 ·split
  ·exact List.prefix_refl _
  ·exact Mv
theorem YC(ok:okR bs r):S2 bs.length (sy1 bs cd dl room sz r al x) (sy1 (bs++ex) cd dl room sz r al x):=by
 unfold sy1;split
 ·exact .inl rfl
 ·split
  ·exact .inl rfl
  ·exact YB ok
theorem CS:∀ {f:Nat} {r:Rd} {al:List Int},al <+: (syF bs cl cd dl room sz f r al).2
 | 0,r,al=>List.prefix_refl _
 | f+1,r,al=>by
  unfold syF;split
  ·split
   ·exact List.prefix_refl _
   ·exact Rx.trans CS
  ·exact List.prefix_refl _
theorem Mw{cl cd:List (Nat×Nat)}:∀ {f:Nat} {r:Rd} {al:List Int},okR bs r->S2 bs.length (syF bs cl cd dl room sz f r al) (syF (bs++ex) cl cd dl room sz f r al)
 | 0,r,al,_=>.inl rfl
 | f+1,r,al,ok=>by
  unfold syF;by_cases h0:r.k=0
  ·rw[if_pos h0,if_pos h0];rcases PN (ex:=ex) (cs:=cl) ok with e | B
   ·rw[<-e];by_cases h1:(sy bs cl r).1.k≠0\/(sy bs cl r).2=256
    ·rw[if_pos h1,if_pos h1];exact .inl rfl
    ·rw[if_neg h1,if_neg h1];rcases YC (ex:=ex) (cd:=cd) (dl:=dl) (room:=room) (sz:=sz) (al:=al) (x:=(sy bs cl r).2) (qk (cs:=cl) ok)with e2 | ⟨B,p⟩
     ·rw[<-e2];exact Mw (KE (qk ok))
     ·rw[BA B.ne];exact .inr ⟨B.le Fh,p.trans CS⟩
   ·rw[if_pos (.inl B.ne)];split
    ·exact .inr ⟨B,List.prefix_refl _⟩
    ·exact .inr ⟨B.le (KD.trans Fh),Rx.trans CS⟩
  ·rw[if_neg h0,if_neg h0];exact .inl rfl
theorem UK(h:r.k≠0):∀ {k:Nat},(sm bs r k).1=r
 | 0=>rfl
 | k+1=>by
  have:=UK h (k:=k);simp only[sm];rw[this,AD h]
theorem UL(ok:okR bs r):∀ {k:Nat},sm bs r k=sm (bs++ex) r k\/Beh bs.length (sm bs r k).1 (sm (bs++ex) r k).1
 | 0=>.inl rfl
 | k+1=>by
  simp only[sm];rcases UL ok (k:=k)with e | B
  ·rw[<-e];rcases j5 (ex:=ex) (n:=3) (K8 (k:=k) ok)with e2 | B
   ·rw[<-e2];exact .inl rfl
   ·exact .inr B
  ·rw[AD B.ne];exact .inr (B.le xq)
theorem ZU(ok:okR bs r):rp bs r all x=rp (bs++ex) r all x\/Beh bs.length (rp bs r all x).1 (rp (bs++ex) r all x).1:=by
 unfold rp;split
 ·rcases j5 (ex:=ex) (n:=2) (jC (w:=all.length==0) ok)with e | B
  ·rw[e];exact .inl rfl
  ·exact .inr B
 ·split
  ·rcases j5 (ex:=ex) (n:=3) ok with e | B
   ·rw[e];exact .inl rfl
   ·exact .inr B
  ·split
   ·rcases j5 (ex:=ex) (n:=7) ok with e | B
    ·rw[e];exact .inl rfl
    ·exact .inr B
   ·exact .inl rfl
theorem YD(ok:okR bs r):lg1 bs cs tot r all=lg1 (bs++ex) cs tot r all\/Beh bs.length (lg1 bs cs tot r all).1 (lg1 (bs++ex) cs tot r all).1:=by
 rcases PN (ex:=ex) (cs:=cs) ok with e | B
 ·unfold lg1;rw[<-e];split
  ·rcases ZU (ex:=ex) (all:=all) (x:=(sy bs cs r).2) (qk (cs:=cs) ok)with e2 | B
   ·rw[e2];exact .inl rfl
   ·right;simp only;rw[js B.ne];exact B.le xj
  ·exact .inl rfl
 ·right;have el:lg1 bs cs tot r all=((sy bs cs r).1,all):=by unfold lg1;rw[if_neg B.ne]
  rw[el];refine B.le ?_;unfold lg1;split
  ·exact WY.trans xj
  ·exact le2.refl
theorem UM{cs:List (Nat×Nat)}{tot:Nat}:∀ {n:Nat} {r:Rd} {all:List Int},tot-all.length<=n->okR bs r->lg bs cs tot r all=lg (bs++ex) cs tot r all\/Beh bs.length (lg bs cs tot r all).1 (lg (bs++ex) cs tot r all).1
 | 0,r,all,hn,ok=>by rw[yU (fun e=>by omega),yU (fun e=>by omega)];exact .inl rfl
 | n+1,r,all,hn,ok=>by
  by_cases h:r.k=0/\all.length<tot
  ·rw[A9 h,A9 h];rcases YD (ex:=ex) (cs:=cs) (tot:=tot) (all:=all) ok with e | B
   ·rw[<-e];by_cases hk:(lg1 bs cs tot r all).1.k=0
    ·have:=(A8 (bs:=bs) (cs:=cs) (tot:=tot) (r:=r) (all:=all)).2.2 hk;exact UM (n:=n) (by omega) (K7 ok)
    ·rw[yU (fun e=>hk e.1),yU (fun e=>hk e.1)];exact .inl rfl
   ·rw[yU (fun e=>B.ne e.1)];exact .inr (B.le (Oa (Nat.le_refl _)))
  ·rw[yU h,yU h];exact .inl rfl
theorem No:le2 (xi bs r).1 (zN bs r).1:=by
 unfold zN;split
 ·exact xj
 ·exact le2.refl
theorem UN:le2 (jT bs r) (zN bs r).1:=(Oa (Nat.le_refl _):le2 (jT bs r) (xi bs r).1).trans No
theorem Li(h:(xi bs r).1.k≠0):zN bs r=((xi bs r).1,[],[]):=by unfold zN;rw[if_neg h]
theorem SC(h:(jT bs r).k≠0):zN bs r=(jT bs r,[],[]):=by
 have e:xi bs r=(jT bs r,[]):=yU fun e=>h e.1
 have:zN bs r=((xi bs r).1,[],[]):=Li (by rw[e];exact h);rw[this,e]
theorem Lj(h:(yv bs r).1.k≠0):zN bs r=((yv bs r).1,[],[]):=by
 have e:jT bs r=(yv bs r).1:=js h;have:zN bs r=(jT bs r,[],[]):=SC (by rw[e];exact h);rw[this,e]
theorem Ll(h:(tk bs 4 (y9 bs r)).1.k≠0):zN bs r=((tk bs 4 (y9 bs r)).1,[],[]):=by
 have e:(yv bs r).1=(tk bs 4 (y9 bs r)).1:=UK h;have:zN bs r=((yv bs r).1,[],[]):=Lj (by rw[e];exact h);rw[this,e]
theorem Ln(h:(y9 bs r).k≠0):zN bs r=(y9 bs r,[],[]):=by
 have e:tk bs 4 (y9 bs r)=(y9 bs r,0):=AD h;have:zN bs r=((tk bs 4 (y9 bs r)).1,[],[]):=Ll (by rw[e];exact h);rw[this,e]
theorem SD(h:(yJ bs r).k≠0):zN bs r=(yJ bs r,[],[]):=by
 have e:y9 bs r=yJ bs r:=by unfold y9;rw[AD h,js h]
 have:zN bs r=(y9 bs r,[],[]):=Ln (by rw[e];exact h);rw[this,e]
theorem HE:le2 (yv bs r).1 (zN bs r).1:=xj.trans UN
theorem Np:le2 (y9 bs r) (zN bs r).1:=(xq.trans NZ:le2 (y9 bs r) (yv bs r).1).trans HE
theorem UO:le2 (yJ bs r) (zN bs r).1:=(xq.trans xj:le2 (yJ bs r) (y9 bs r)).trans Np
theorem UP(ok:okR bs r):zN bs r=zN (bs++ex) r\/Beh bs.length (zN bs r).1 (zN (bs++ex) r).1:=by
 obtain⟨k0,k1,k2,k3,k4⟩:=Fg ok;rcases j5 (ex:=ex) (n:=5) ok with e | B
 ·have e0:yJ bs r=yJ (bs++ex) r:=by unfold yJ;rw[e]
  have eL:w7 bs r=w7 (bs++ex) r:=by unfold w7;rw[e]
  rcases j5 (ex:=ex) (n:=5) k0 with e | B
  ·have e1:y9 bs r=y9 (bs++ex) r:=by unfold y9;rw[<-e0,e]
   have eD:Bd bs r=Bd (bs++ex) r:=by unfold Bd;rw[<-e0,e]
   rcases j5 (ex:=ex) (n:=4) k1 with e | B
   ·rcases UL (ex:=ex) (k:=(tk bs 4 (y9 bs r)).2.toNat+4) (y7 (n:=4) k1)with e2 | B
    ·have e2:yv bs r=yv (bs++ex) r:=by unfold yv;rw[<-e1,<-e];exact e2
     have e3:jT bs r=jT (bs++ex) r:=by unfold jT;rw[e2]
     rcases UM (ex:=ex) (cs:=zl (yv bs r).2) (tot:=w7 bs r+Bd bs r) (all:=[]) (Nat.le_refl _) k3 with e4 | B
     ·have e4:xi bs r=xi (bs++ex) r:=by unfold xi;rw[<-e2,<-eL,<-eD,<-e3];exact e4
      left;unfold zN;rw[e4,eL]
     ·have B:Beh bs.length (xi bs r).1 (xi (bs++ex) r).1:=by
       have:xi (bs++ex) r=lg (bs++ex) (zl (yv bs r).2) (w7 bs r+Bd bs r) (jT bs r) []:=by unfold xi;rw[<-e2,<-eL,<-eD,<-e3]
       rw[this];exact B
      rw[Li B.ne];exact .inr (B.le No)
    ·have B:Beh bs.length (yv bs r).1 (yv (bs++ex) r).1:=by
      have:yv (bs++ex) r=sm (bs++ex) (tk bs 4 (y9 bs r)).1 ((tk bs 4 (y9 bs r)).2.toNat+4):=by unfold yv;rw[<-e1,<-e]
      rw[this];exact B
     rw[Lj B.ne];exact .inr (B.le HE)
   ·rw[Ll B.ne];rw[e1]at B ⊢;exact .inr (B.le ((NZ:le2 _ (yv (bs++ex) r).1).trans HE))
  ·have e1:y9 bs r=(tk bs 5 (yJ bs r)).1:=js B.ne;rw[Ln (by rw[e1];exact B.ne),e1];rw[e0]at B ⊢;exact .inr (B.le ((xj:le2 _ (y9 (bs++ex) r)).trans Np))
 ·have e1:yJ bs r=(tk bs 5 r).1:=js B.ne;rw[SD (by rw[e1];exact B.ne),e1];exact .inr (B.le ((xj:le2 _ (yJ (bs++ex) r)).trans UO))
theorem Ft:al <+: (blk bs dl room sz F r al).2:=by
 unfold blk;split
 ·exact List.prefix_refl _
 ·split
  ·exact Iq
  ·split
   ·exact CS
   ·split
    ·exact List.prefix_refl _
    ·exact CS
theorem YE(ok:okR bs r):S2 bs.length (blk bs dl room sz F r al) (blk (bs++ex) dl room sz F r al):=by
 have B3:∀(x:Rd),bk3 bs r=x->Beh bs.length x (bk3 (bs++ex) r)->S2 bs.length (blk bs dl room sz F r al) (blk (bs++ex) dl room sz F r al):=fun x e B=>by
  have ec:blk bs dl room sz F r al=(x,al):=by unfold blk;rw[e,if_pos B.ne]
  rw[ec];exact .inr ⟨B.le KM,Ft⟩
 have k3:=KN ok;rcases j5 (ex:=ex) (n:=1) ok with e | B
 ·have e1:bk1 bs r=bk1 (bs++ex) r:=e;rcases j5 (ex:=ex) (n:=2) (r:=(bk1 bs r).1) (y7 ok)with e | B
  ·have e2:bk2 bs r=bk2 (bs++ex) r:=by unfold bk2;rw[<-e1];exact e
   have e3:bk3 bs r=bk3 (bs++ex) r:=by unfold bk3;rw[e2]
   unfold blk;rw[<-e3,<-e2];split
   ·exact .inl rfl
   ·split
    ·exact Y0 k3
    ·split
     ·exact Mw k3
     ·rcases UP (ex:=ex) k3 with e | B
      ·rw[<-e];split
       ·exact .inl rfl
       ·exact Mw (AB k3)
      ·rw[if_pos B.ne];split
       ·exact .inr ⟨B,List.prefix_refl _⟩
       ·exact .inr ⟨B.le Fh,CS⟩
  ·have B:Beh bs.length (bk2 bs r).1 (bk2 (bs++ex) r).1:=by
    have:bk2 (bs++ex) r=tk (bs++ex) 2 (bk1 bs r).1:=by unfold bk2;rw[<-e1]
    rw[this];exact B
   exact B3 _ (by unfold bk3;rw[js B.ne]) (B.le xj)
 ·have B:Beh bs.length (bk1 bs r).1 (bk1 (bs++ex) r).1:=B;have e2:bk2 bs r=((bk1 bs r).1,0):=AD B.ne;exact B3 (bk1 bs r).1 (by unfold bk3;rw[e2,js B.ne]) (B.le (xq.trans xj))
theorem Mx:∀ {f:Nat} {r:Rd} {al:List Int},al <+: (blF bs dl room sz F f r al).2
 | 0,r,al=>List.prefix_refl _
 | f+1,r,al=>by
  unfold blF;split
  ·split
   ·exact Ft
   ·exact Ft.trans Mx
  ·exact List.prefix_refl _
theorem Ir:le2 (bk1 bs r).1 (blk bs dl room sz F r al).1:=(xq.trans xj:le2 (bk1 bs r).1 (bk3 bs r)).trans KM
theorem PQ:∀ {f:Nat} {r:Rd} {al:List Int},le2 r (blF bs dl room sz F f r al).1
 | 0,r,al=>le2.refl
 | f+1,r,al=>by
  unfold blF;split
  ·split
   ·exact xq.trans Ir
   ·exact(xq.trans Ir).trans PQ
  ·exact le2.refl
theorem Ry{F:Nat}:∀ {f:Nat} {r:Rd} {al:List Int},okR bs r->S2 bs.length (blF bs dl room sz F f r al) (blF (bs++ex) dl room sz F f r al)
 | 0,r,al,_=>.inl rfl
 | f+1,r,al,ok=>by
  unfold blF;by_cases h0:r.k=0
  ·rw[if_pos h0,if_pos h0];rcases j5 (ex:=ex) (n:=1) ok with e | B
   ·have e1:bk1 bs r=bk1 (bs++ex) r:=e;rw[<-e1];rcases YE (ex:=ex) (dl:=dl) (room:=room) (sz:=sz) (F:=F) (al:=al) ok with e | ⟨B,p⟩
    ·rw[<-e];split
     ·exact .inl rfl
     ·exact Ry (Hw ok)
    ·split
     ·exact .inr ⟨B,p⟩
     ·rw[BB B.ne];exact .inr ⟨B.le PQ,p.trans Mx⟩
   ·have B:Beh bs.length (bk1 bs r).1 (bk1 (bs++ex) r).1:=B;have e2:bk2 bs r=((bk1 bs r).1,0):=AD B.ne;have e3:bk3 bs r=(bk1 bs r).1:=by unfold bk3;rw[e2,js B.ne]
    have ek:blk bs dl room sz F r al=((bk1 bs r).1,al):=by unfold blk;rw[e3,if_pos B.ne]
    have ez:(bk1 bs r).2=0:=by
     have h2:(tk bs 1 r).1.k=2:=B.1;show(tk bs 1 r).2=0;unfold tk at h2 ⊢;rw[if_pos h0]at h2 ⊢;split
     ·rfl
     ·rename_i hn;rw[if_neg hn]at h2;cases h2
    rw[if_neg (fun h=>h ez),ek];rw[BB B.ne];split
    ·exact .inr ⟨B.le Ir,Ft⟩
    ·exact .inr ⟨B.le (Ir.trans PQ),Ft.trans Mx⟩
  ·rw[if_neg h0,if_neg h0];exact .inl rfl
theorem Jy{cl cd:List (Nat×Nat)}:∀ {f f':Nat} {r:Rd} {al:List Int},okR bs r->(r.k=0->8*(bs.length:Int)-r.i<f)->f<=f'->syF bs cl cd dl room sz f r al=syF bs cl cd dl room sz f' r al
 | 0,f',r,al,ok,h,_=>by
  have hk:r.k≠0:=fun hk=>by have:=ok hk;have:=h hk;omega
  rw[BA hk,BA hk]
 | f+1,0,r,al,ok,h,hf=>by omega
 | f+1,f'+1,r,al,ok,h,hf=>by
  unfold syF;by_cases h0:r.k=0
  ·rw[if_pos h0,if_pos h0];split
   ·rfl
   ·rename_i hn;have hs:(sy bs cl r).1.k=0:=by
     by_cases e:(sy bs cl r).1.k=0
     ·exact e
     ·exact absurd (.inl e) hn
    have hlt:=NY hs;refine Jy (KE (qk ok)) (fun hk=>?_) (by omega);have h1:=(KD (bs:=bs) (cd:=cd) (dl:=dl) (room:=room) (sz:=sz) (al:=al) (x:=(sy bs cl r).2) hk).2;have:=h h0;omega
  ·rw[if_neg h0,if_neg h0]
theorem WJ{F F':Nat}(ok:okR bs r)(h:r.k=0->8*(bs.length:Int)-r.i<F)(hf:F<=F'):blk bs dl room sz F r al=blk bs dl room sz F' r al:=by
 have k3:=KN ok;have h3:∀ {q:Rd},le2 (bk3 bs r) q->q.k=0->8*(bs.length:Int)-q.i<F:=fun hq hk=>by
  obtain⟨g1,g2⟩:=hq hk;obtain⟨g3,g4⟩:=KL g1;have:=h g3;omega
 unfold blk;split
 ·rfl
 ·split
  ·rfl
  ·split
   ·exact Jy k3 (h3 le2.refl) hf
   ·split
    ·rfl
    ·exact Jy (AB k3) (h3 FM) hf
theorem PS{F F':Nat}(hF:F<=F'):∀ {f f':Nat} {r:Rd} {al:List Int},okR bs r->(r.k=0->8*(bs.length:Int)-r.i<f)->(r.k=0->8*(bs.length:Int)-r.i<F)->f<=f'->blF bs dl room sz F f r al=blF bs dl room sz F' f' r al
 | 0,f',r,al,ok,h,_,_=>by
  have hk:r.k≠0:=fun hk=>by have:=ok hk;have:=h hk;omega
  rw[BB hk,BB hk]
 | f+1,0,r,al,ok,h,_,hf=>by omega
 | f+1,f'+1,r,al,ok,h,g,hf=>by
  unfold blF;by_cases h0:r.k=0
  ·rw[if_pos h0,if_pos h0,<-WJ (F:=F) (F':=F') ok g hF];split
   ·rfl
   ·have hlt:∀hk:(blk bs dl room sz F r al).1.k=0,r.i+3<=(blk bs dl room sz F r al).1.i:=fun hk=>by
     obtain⟨g1,g2⟩:=KM hk;have:=KL g1;omega
    refine PS hF (Hw ok) (fun hk=>?_) (fun hk=>?_) (by omega)
    ·have:=hlt hk;have:=h h0;omega
    ·have:=hlt hk;have:=g h0;omega
  ·rw[if_neg h0,if_neg h0]
theorem PT(ok:okR bs r)(h:r.k=0->0<=r.i):S2 bs.length (blF bs dl room sz (8*bs.length+1) (8*bs.length+1) r al) (blF (bs++ex) dl room sz (8*(bs++ex).length+1) (8*(bs++ex).length+1) r al):=by
 have hle:8*bs.length+1<=8*(bs++ex).length+1:=by rw[List.length_append];omega
 rw[PS hle ok (fun hk=>by have:=h hk;push_cast;omega) (fun hk=>by have:=h hk;push_cast;omega) hle];exact Ry ok
end
end
variable {ds us xs ys:List Int}{m q:Nat}
section
section
def no1(r:Rd):Prop:=r.k≠1
theorem ku(h:no1 r):no1 (tk bs n r).1:=by
 unfold tk;split
 ·split <;> simp[no1]
 ·exact h
theorem wC(h:no1 r):no1 (bd w r):=by
 unfold bd;split
 ·simp[no1]
 ·exact h
theorem HF(h:no1 r):no1 (sy bs cs r).1:=by
 unfold sy;split
 ·simp only[no1];split
  ·decide
  ·split <;> decide
 ·exact h
theorem Jz{d:List Int}(h:no1 r):no1 (tell dl room r al d).1:=by
 unfold tell;split
 ·split
  ·simp[no1]
  ·exact h
 ·exact h
theorem YF(h:no1 r):no1 (alg r):=by
 unfold alg;split
 ·simp[no1]
 ·exact h
theorem Rz:∀ {n:Nat} {r:Rd} {al:List Int},no1 r->no1 (stL bs dl room n r al).1
 | 0,r,al,h=>h
 | n+1,r,al,h=>by
  unfold stL;split
  ·exact Rz (Jz (ku h))
  ·exact h
theorem YG(h:no1 r):no1 (cpF bs cd dl room sz r al s).1:=by
 have h3:no1 (cp3 bs cd r s):=wC (HF (ku h));have h5:no1 (cp5 bs cd sz r al s):=wC (ku h3);unfold cpF;split
 ·exact h3
 ·split
  ·exact h5
  ·exact Jz h5
theorem YH(h:no1 r):no1 (sy1 bs cd dl room sz r al x).1:=by
 unfold sy1;split
 ·exact Jz h
 ·split
  ·exact wC h
  ·exact YG h
theorem My:∀ {f:Nat} {r:Rd} {al:List Int},no1 r->no1 (syF bs cl cd dl room sz f r al).1
 | 0,r,al,h=>h
 | f+1,r,al,h=>by
  unfold syF;split
  ·split
   ·exact HF h
   ·exact My (YH (HF h))
  ·exact h
theorem UQ(h:no1 r):∀ {k:Nat},no1 (sm bs r k).1
 | 0=>h
 | k+1=>ku (UQ h)
theorem ZV(h:no1 r):no1 (rp bs r all x).1:=by
 unfold rp;split
 ·exact ku (wC h)
 ·split
  ·exact ku h
  ·split
   ·exact ku h
   ·exact h
theorem R4(h:no1 r):no1 (lg1 bs cs tot r all).1:=by
 unfold lg1;split
 ·exact wC (ZV (HF h))
 ·exact HF h
theorem UR{cs:List (Nat×Nat)}{tot:Nat}:∀ {n:Nat} {r:Rd} {all:List Int},tot-all.length<=n->no1 r->no1 (lg bs cs tot r all).1
 | 0,r,all,hn,H=>by rw[yU (fun e=>by omega)];exact H
 | n+1,r,all,hn,H=>by
  by_cases h:r.k=0/\all.length<tot
  ·rw[A9 h];by_cases hk:(lg1 bs cs tot r all).1.k=0
   ·have:=(A8 (bs:=bs) (cs:=cs) (tot:=tot) (r:=r) (all:=all)).2.2 hk;exact UR (n:=n) (by omega) (R4 H)
   ·rw[yU (fun e=>hk e.1)];exact R4 H
  ·rw[yU h];exact H
theorem Nq(h:no1 r):no1 (zN bs r).1:=by
 have h1:no1 (y9 bs r):=wC (ku (wC (ku h)));have h4:no1 (xi bs r).1:=UR (Nat.le_refl _) (wC (UQ (ku h1)));unfold zN;split
 ·exact wC h4
 ·exact h4
theorem R9(h:no1 r):no1 (blk bs dl room sz F r al).1:=by
 have h3:no1 (bk3 bs r):=wC (ku (ku h));unfold blk;split
 ·exact h3
 ·split
  ·exact Rz (wC (ku (ku (YF h3))))
  ·split
   ·exact My h3
   ·split
    ·exact Nq h3
    ·exact My (Nq h3)
theorem RD:∀ {f:Nat} {r:Rd} {al:List Int},no1 r->no1 (blF bs dl room sz F f r al).1
 | 0,r,al,h=>h
 | f+1,r,al,h=>by
  unfold blF;split
  ·split
   ·exact R9 h
   ·exact RD (R9 h)
  ·exact h
end
section
variable {ex : List Int}{n:Int}
theorem PU{n:Nat}(p:xs <+: ys):xs.drop n <+: ys.drop n:=by
 obtain⟨t,e⟩:=p;exact⟨t.drop (n-xs.length),by rw[<-e,List.drop_append]⟩
theorem HG:S2 bs.length (yM bs m ds) (yM (bs++ex) m ds):=
 PT (fun _=>⟨Int.le_refl _,by show(0:Int)<=_;omega⟩) (fun _=>Int.le_refl _)
theorem RE(hl:bs.length<=65536)(hn:1<=n/\n<=32768):(zK bs n ds).2.1=(yM bs n.toNat ds).2.drop (zB n.toNat ds).length:=by
 unfold zK;rw[if_neg (by omega),if_neg (by omega)];split <;> rfl
theorem YI(hl:(bs++ex).length<=65536):(zK bs n ds).2.1 <+: (zK (bs++ex) n ds).2.1:=by
 have hl2:bs.length<=65536:=by rw[List.length_append]at hl;omega
 by_cases hn:1<=n/\n<=32768
 ·rw[RE hl2 hn,RE hl hn];rcases HG (bs:=bs) (ex:=ex) (ds:=ds) (m:=n.toNat)with e | ⟨_,p⟩
  ·rw[e];exact List.prefix_refl _
  ·exact PU p
 ·have e:(zK bs n ds).2.1=[]:=by unfold zK;rw[if_neg (by omega),if_pos (by omega)]
  rw[e];exact List.nil_prefix
theorem PV(h:(zK bs n ds).1=1):bs.length<=65536/\(1<=n/\n<=32768)/\(yM bs n.toNat ds).1.k=0:=by
 unfold zK at h;by_cases h1:bs.length>65536
 ·rw[if_pos h1]at h;simp at h
 ·rw[if_neg h1]at h;by_cases h2:n<1\/n>32768
  ·rw[if_pos h2]at h;simp at h
  ·rw[if_neg h2]at h;by_cases h3:(yM bs n.toNat ds).1.k≠0
   ·rw[if_pos h3]at h;exact absurd h (RD (r:=⟨0,0⟩) (by simp[no1]))
   ·exact⟨by omega,by omega,by omega⟩
theorem WK(h:(zK bs n ds).1=1):0<=(zK bs n ds).2.2.1/\(zK bs n ds).2.2.1<=8*(bs.length:Int):=by
 obtain⟨g1,g2,g3⟩:=PV h;have okF:okR bs (yM bs n.toNat ds).1:=KP (fun _=>⟨Int.le_refl _,by show(0:Int)<=_;omega⟩);have e:zK bs n ds=(1,(yM bs n.toNat ds).2.drop (zB n.toNat ds).length,(yM bs n.toNat ds).1.i,()):=by
  unfold zK;rw[if_neg (by omega),if_neg (by omega),if_neg (by omega)]
 rw[e];exact okF g3
theorem YJ{more:List Int}(h:(zK bs n ds).1=1)(hq:(q:Int)=((zK bs n ds).2.2.1+7)/8)(hm:(bs.take q++more).length<=65536):q<=bs.length/\zK (bs.take q++more) n ds=zK bs n ds:=by
 obtain⟨g1,g2,g3⟩:=PV h;have eA:∀ {B:List Int},B.length<=65536->(yM B n.toNat ds).1.k=0->zK B n ds=(1,(yM B n.toNat ds).2.drop (zB n.toNat ds).length,(yM B n.toNat ds).1.i,()):=fun hB hk=>by
  unfold zK;rw[if_neg (by omega),if_neg (by omega),if_neg (by omega)]
 have e1:=eA g1 g3;rw[e1]at hq;simp only at hq;have okF:okR bs (yM bs n.toNat ds).1:=KP (fun _=>⟨Int.le_refl _,by show(0:Int)<=_;omega⟩);have hb:=okF g3;have hql:q<=bs.length:=by omega
 refine⟨hql,?_⟩;have lt:(bs.take q).length=q:=by rw[List.length_take];omega
 have e2:yM (bs.take q) n.toNat ds=yM bs n.toNat ds:=by
  have K:=HG (bs:=bs.take q) (ex:=bs.drop q) (ds:=ds) (m:=n.toNat);rw[List.take_append_drop,lt]at K;rcases K with e | ⟨B,_⟩
  ·exact e
  ·have:=B.2 g3;omega
 have e3:yM (bs.take q++more) n.toNat ds=yM bs n.toNat ds:=by
  rcases HG (bs:=bs.take q) (ex:=more) (ds:=ds) (m:=n.toNat)with e | ⟨B,_⟩
  ·rw[<-e,e2]
  ·exact absurd (by rw[e2];exact g3) B.ne
 rw[eA hm (by rw[e3];exact g3),e3,e1]
end
section
variable {ex : List Int}
theorem US:∀ {n:Nat} {r:Rd} {x:Int},le2 r (hig bs n r x).1
 | 0,r,x=>le2.refl
 | n+1,r,x=>by unfold hig;exact xq.trans US
theorem Mz:∀ {n:Nat} {r:Rd} {x:Int},okR bs r->hig bs n r x=hig (bs++ex) n r x\/Beh bs.length (hig bs n r x).1 (hig (bs++ex) n r x).1
 | 0,r,x,_=>.inl rfl
 | n+1,r,x,ok=>by
  unfold hig;rcases j5 (ex:=ex) (n:=8) ok with e | B
  ·rw[<-e];exact Mz (y7 ok)
  ·rw[BE B.ne];exact .inr (B.le US)
theorem M0:(zA B sz us r).2.1=zO B sz us r:=by unfold zA;split <;> rfl
theorem PW(h:r.k≠0):zO B sz us r=[]:=by rw[<-M0,UC h]
theorem UT(ok:okR bs r):zO bs sz us r <+: zO (bs++ex) sz us r:=by
 by_cases h0:r.k=0
 ·have:=ok h0;rcases PT (ex:=ex) (dl:=(zB sz us).length) (room:=100000) (sz:=sz) (al:=zB sz us) ok (fun h=>(ok h).1)with e | ⟨_,p⟩
  ·unfold zO zE;rw[e];exact List.prefix_refl _
  ·exact PU p
 ·rw[PW h0];exact List.nil_prefix
theorem ZW(hl:(bs++ex).length<=65536):(xM bs ds).2.1 <+: (xM (bs++ex) ds).2.1:=by
 have hl2:bs.length<=65536:=by rw[List.length_append]at hl;omega
 unfold xM;rw[if_neg (by omega),if_neg (by omega),M0,M0];have ok0:okR bs ⟨0,0⟩:=fun _=>⟨Int.le_refl _,by show(0:Int)<=_;omega⟩
 have okH:okR bs (zH bs).1:=Fl ok0;have okR':okR bs (zR bs):=jC okH;rcases Mz (ex:=ex) (n:=2) (x:=0) ok0 with e | B
 ·have eH:zH bs=zH (bs++ex):=e;have eR:zR bs=zR (bs++ex):=by unfold zR;rw[eH]
  by_cases hd:(zH bs).2/32%2=1
  ·rcases Mz (ex:=ex) (n:=4) (r:=zR bs) (x:=0) okR' with e | B
   ·have eI:zId bs=zId (bs++ex):=by unfold zId;rw[<-eR];exact e
    have eD:zD bs ds=zD (bs++ex) ds:=by unfold zD;rw[<-eH,<-eI,<-eR]
    rw[<-eD,<-eH];refine UT ?_;unfold zD;rw[if_pos hd];exact Pv (by decide) (Fl okR')
   ·have hb:(zD bs ds).1.k≠0:=by
     have e2:(zD bs ds).1=(zId bs).1:=by unfold zD;rw[if_pos hd];exact BD B.ne
     rw[e2];exact B.ne
    rw[PW hb];exact List.nil_prefix
  ·have eD:zD bs ds=(zR bs,[]):=by unfold zD;rw[if_neg hd]
   have eD2:zD (bs++ex) ds=(zR bs,[]):=by unfold zD;rw[<-eH,if_neg hd,<-eR]
   rw[eD,eD2,<-eH];exact UT okR'
 ·have B:Beh bs.length (zH bs).1 (zH (bs++ex)).1:=B;have eR:zR bs=(zH bs).1:=by unfold zR;rw[js B.ne]
  have hk:(zD bs ds).1.k≠0:=by
   unfold zD;split
   ·have e2:(zId bs).1=zR bs:=by unfold zId;exact BE (by rw[eR];exact B.ne)
    rw[BD (by rw[e2,eR];exact B.ne),e2,eR];exact B.ne
   ·simp only;rw[eR];exact B.ne
  rw[PW hk];exact List.nil_prefix
end
end
variable {h h0 h1:qaA}{a:Option Addr}{b c:Nat}{T:TypeId}{S:Shared}{code:List Int}
section
def zI(h0 h:qaA)(b:Nat)(T:TypeId)(code:List Int)(a:Option Addr)(c:Nat):Prop:=
 ∃(i:Nat) (hh:Int),h b=some (.cells #[.slice a code.length c,.int .i64 i,.int .i64 hh] T)/\i<=code.length/\zo h0 .u8 a code/\qaB h0 h/\h0 b=none
theorem zI.sub(H:zI h0 h b T code a c):qaB h0 h:=by obtain⟨_,_,_,_,_,s,_⟩:=H;exact s
theorem zI.held(H:zI h0 h b T code a c):h b≠none:=by obtain⟨_,_,hb,_⟩:=H;rw[hb];simp
theorem zI.mono(H:zI h0 h b T code a c)(s:qaB h h1):zI h0 h1 b T code a c:=by
 obtain⟨i,hh,hb,hi,hx,s0,hn⟩:=H;exact⟨i,hh,s b _ hb,hi,hx,s0.trans s,hn⟩
theorem zI.keep(H:zI h0 h b T code a c)(s:qaB h0 h1)(hk:h1 b=h b):zI h0 h1 b T code a c:=by
 obtain⟨i,hh,hb,hi,hx,s0,hn⟩:=H;exact⟨i,hh,hk.trans hb,hi,hx,s,hn⟩
theorem RF(hi:qaC S h)(hx:zo h .u8 a code)(hl:code.length<=1048576) :
  zb oPP S AM #[.slice a code.length c] h (fun v h'=>∃b T,v=.pointer (some ⟨b,0,none⟩)/\zI h h' b T code a c):=by
 refine LV (vs:=[.slice a code.length c]) ⟨rfl,trivial⟩ hi ?_;simp only[Hh,Tr.wp,Ex.ev,coerce,toInt_int,za,zc,ze,zd,zf,zM,z9,arith,Cst.val,SV.den,yF,zy,zV,zq,vF,vG,List.replicate_one,vA,vB,vC,decide_eq_true_eq,decide_eq_false_iff_not,vD,vE,vI,vH,vJ,and_true];refine⟨fun us h'=>∃(i:Nat) (x:Int),us=[.int .i64 x,.int .i64 i]/\i<=code.length/\h'=h,fun us _=>code.length-(toInt (us.getD 1 undef)).toNat,⟨0,_,rfl,by omega,rfl⟩,?_⟩;rintro x y h' ⟨i,z,hx1,hi2,eq⟩;subst eq;obtain⟨rfl,rfl⟩:x=z/\y=i:=by simpa using hx1
 refine⟨fun hlt=>?_,fun hge=>?_⟩
 ·have hi3:i<code.length:=by omega
  obtain⟨g1,g2⟩:=hx.cell (List.getElem?_eq_getElem hi3);have w2:IntKind.i64.wrap ((i:Int)+1)=((i+1:Nat):Int):=zr;rw[w2];exact⟨by simpa using g2,by omega,hlt,code[i],by simpa[add_add]using g1,⟨i+1,_,rfl,by omega,rfl⟩,by simp only[vB,vA,toInt_int];omega⟩
 ·intro b hb;exact⟨b,_,rfl,0,x,upd_same,Nat.zero_le _,hx,Sub.zC hb,hb⟩
theorem DG(hi:qaC S h0)(H:zI h0 h b T code a c)(hl:code.length<=1048576) :
  zb oPP S jy #[.pointer (some ⟨b,0,none⟩)] h (fun v h'=>∃x,v=.int .i64 x/\0<=x/\x<=255/\zI h0 h' b T code a c/\∀y,y≠b->h' y=h y):=by
 obtain⟨i,hh,hb,hi2,hx,s,hn⟩:=H;have hsb:¬S b:=fun hs=>hi b hs hn
 refine Kp (vs:=[.pointer (some ⟨b,0,none⟩)]) ⟨rfl,trivial⟩ (hi.sub s) ?_;simp only[Gp,Tr.wp,Ex.ev,coerce,toInt_int,za,zc,ze,zd,zf,zx,zM,xb,z9,arith,Cst.val,SV.den,zy,zq,yk,vA,vB,vC,decide_eq_true_eq,decide_eq_false_iff_not,vD,vE,vI,vH,Nat.zero_add,Nat.add_zero,and_true,zu];have ld:∀ {h':qaA} {i:Nat} {hh:Int},h' b=some (.cells #[.slice a code.length c,.int .i64 i,.int .i64 hh] T)->zj h' ⟨b,0,none⟩=some (.slice a code.length c)/\zj h' ⟨b,1,none⟩=some (.int .i64 i)/\zj h' ⟨b,2,none⟩=some (.int .i64 hh):=fun {h' i hh} hb=>by simp[zj,hb]
 obtain⟨g0,g1,g2⟩:=ld hb;have VB:∀m:Int,zQ h ⟨b,2,none⟩ (.int .i64 m)=upd h b (.cells #[.slice a code.length c,.int .i64 i,.int .i64 m] T):=fun m=>by rw[hset_cells' hb];rfl
 have ok2:xE S h ⟨b,2,none⟩:=⟨⟨_,g2⟩,by simp[yN,hb],hsb⟩;refine⟨by simp,hh,g2,by simp,ok2,?_⟩;rw[VB];obtain⟨m,hm⟩:∃m,m=IntKind.i64.wrap (IntKind.i64.wrap (hh*6364136223846793005)+1442695040888963407):=⟨_,rfl⟩;rw[<-hm];have hb1:upd h b (.cells #[.slice a code.length c,.int .i64 i,.int .i64 m] T) b=some (.cells #[.slice a code.length c,.int .i64 i,.int .i64 m] T):=upd_same;obtain⟨k0,k1,k2⟩:=ld hb1;have hs1:qaB h0 (upd h b (.cells #[.slice a code.length c,.int .i64 i,.int .i64 m] T)):=fun y o hy=>by rw[upd_ne (fun e=>by rw[e,hn]at hy;cases hy)];exact s y o hy
 refine⟨by simp,m,k2,by simp,m,k2,by simp,i,k1,by simp,_,_,_,k0,fun hlt=>?_,fun hge _=>?_⟩
 ·have hi3:i<code.length:=by omega
  obtain⟨e1,e2⟩:=(hx.sub hs1).cell (List.getElem?_eq_getElem hi3);refine⟨by simp,_,_,_,k0,by simp,i,k1,by simpa using e2,by omega,hlt,code[i],by simpa[add_add]using e1,by simp,i,k1,by simp,⟨⟨_,k1⟩,by simp[yN,hb1],hsb⟩,?_⟩;intro _;have w2:IntKind.i64.wrap ((i:Int)+1)=((i+1:Nat):Int):=zr;have VA:zQ (upd h b (.cells #[.slice a code.length c,.int .i64 i,.int .i64 m] T)) ⟨b,1,none⟩ (.int .i64 ((i+1:Nat):Int))=upd h b (.cells #[.slice a code.length c,.int .i64 ((i+1:Nat):Int),.int .i64 m] T):=by rw[hset_cells' hb1,xw];rfl
  rw[w2,VA];have hm:=OP (y:=IntKind.i64.wrap (Go.bits .and .i64 (Go.bits .xor .i64 (m.fdiv (2^min (Int.toNat 33) IntKind.i64.bits)) (m.fdiv (2^min (Int.toNat 45) IntKind.i64.bits))) 255+IntKind.i64.wrap code[i])) (m:=255) (by omega);exact⟨_,rfl,hm.1,hm.2,⟨i+1,m,upd_same,by omega,hx,fun y o hy=>by rw[upd_ne (fun e=>by rw[e,hn]at hy;cases hy)];exact s y o hy,hn⟩,fun y hy=>upd_ne hy⟩
 ·have hm:=OP (y:=Go.bits .xor .i64 (m.fdiv (2^min (Int.toNat 33) IntKind.i64.bits)) (m.fdiv (2^min (Int.toNat 45) IntKind.i64.bits))) (m:=255) (by omega);exact⟨_,rfl,hm.1,hm.2,⟨i,m,upd_same,hi2,hx,hs1,hn⟩,fun y hy=>upd_ne hy⟩
theorem zU(hi:qaC S h0)(H:zI h0 h b T code a c)(hl:code.length<=1048576)(n:Int)(h1:1<=n)(h2:n<=1000000) :
  zb oPP S zw #[.pointer (some ⟨b,0,none⟩),.int .i64 n] h (fun v h'=>∃x,v=.int .i64 x/\0<=x/\x<n/\zI h0 h' b T code a c/\∀y,y≠b->h' y=h y):=by
 refine Jh (vs:=[.pointer (some ⟨b,0,none⟩),.int .i64 n]) ⟨rfl,rfl,trivial⟩ (hi.sub H.sub) ?_;simp only[EX,Tr.wp,z4,Ex.ev,coerce,toInt_int,za,zx,z9,arith,Cst.val,SV.den,zn,zL,zz,zk,zi,zy,vF,vG,vA,vB,decide_eq_true_eq,decide_eq_false_iff_not,vD,vE,vI,vH,vJ,if_false,vK];have hn0:(n != 0)=true:=bne_iff_ne.2 (by omega);have md:∀x:Int,0<=x->0<=x.tmod n/\x.tmod n<n:=fun x hx=>by
  rw[Int.tmod_eq_emod_of_nonneg hx];exact⟨Int.emod_nonneg _ (by omega),Int.emod_lt_of_pos _ (by omega)⟩
 refine⟨fun hle=>?_,fun hgt=>?_⟩
 ·refine(DG hi H hl).mono ?_;rintro _ h3 ⟨x,rfl,x0,x1,C,f⟩;have:=md x x0;exact⟨_,rfl,hn0,_,rfl,this.1,this.2,C,f⟩
 ·refine(DG hi H hl).mono ?_;rintro _ h3 ⟨x,rfl,x0,x1,C,f⟩;refine⟨_,rfl,?_⟩;refine(DG hi C hl).mono ?_;rintro _ h4 ⟨y,rfl,y0,y1,C2,f2⟩;refine⟨_,rfl,?_⟩;refine(DG hi C2 hl).mono ?_;rintro _ h5 ⟨z,rfl,z0,z1,C3,f3⟩;have w:IntKind.i64.wrap (IntKind.i64.wrap (IntKind.i64.wrap (x*65536)+IntKind.i64.wrap (y*256))+z)=x*65536+y*256+z:=by
   rw[i64_in (x*65536) (by omega),i64_in (y*256) (by omega),i64_in (x*65536+y*256) (by omega),i64_in _ (by omega)]
  refine⟨_,rfl,hn0,?_⟩;rw[w];have:=md (x*65536+y*256+z) (by omega);exact⟨_,rfl,this.1,this.2,C3,fun y hy=>by rw[f3 y hy,f2 y hy,f y hy]⟩
theorem PX(hi:qaC S h0)(H:zI h0 h b T code a c)(hl:code.length<=1048576)(n:Nat)(h2:n<=100000) :
  zb oPP S jx #[.pointer (some ⟨b,0,none⟩),.int .i64 n] h (fun v h'=>∃ys:List Int,ys.length=n/\tB.O h' v ys/\tB.New h v/\zI h0 h' b T code a c/\(∀y,h y≠none->y≠b->h' y=h y)/\∀y∈ys,0<=y/\y<256):=by
 refine Ko (vs:=[.pointer (some ⟨b,0,none⟩),.int .i64 n]) ⟨rfl,rfl,trivial⟩ (hi.sub H.sub) ?_;simp only[Gn,Tr.wp,z4,Ex.ev,coerce,toInt_int,za,zc,ze,zd,zx,z9,arith,Cst.val,SV.den,zn,zL,zz,zk,zi,zy,zV,vF,vG,vA,vB,vC,decide_eq_true_eq,decide_eq_false_iff_not,vD,vE,vI,vH,vJ,if_false,vK];intro b0 hb0;have hb00:=ya H.sub hb0;have hne0:b0≠b:=fun e=>H.held (e▸hb0)
 have s0:qaB h (upd h b0 (.cells (ints .u8 []) 5)):=Sub.zC hb0;refine⟨fun us h'=>∃(a1:Option Addr) (c1 i:Nat) (ys:List Int),us=[.slice a1 i c1,.int .i64 i]/\i<=n/\ys.length=i/\Part .u8 h' (.slice a1 i c1) ys/\(∀y,zh (.slice a1 i c1)=some y->h y=none)/\zI h0 h' b T code a c/\(∀y,h y≠none->y≠b->h' y=h y)/\∀y∈ys,0<=y/\y<256,
  fun us _=>n-(toInt (us.getD 1 undef)).toNat,⟨_,_,0,[],rfl,by omega,rfl,(Own.made []).part,New.of hb0,H.mono s0,fun y hy _=>upd_ne fun e=>hy (e▸hb0),fun y hy=>by cases hy⟩,?_⟩
 rintro a1 l1 c1 x h' ⟨a1',c1',i,ys,hx1,hi2,hy,P,N,C,f,hbs⟩;obtain⟨⟨rfl,rfl,rfl⟩,rfl⟩:(a1=a1'/\l1=i/\c1=c1')/\x=i:=by simpa using hx1
 refine⟨fun hlt=>?_,fun hge=>?_⟩
 ·refine(DG hi C hl).mono ?_;rintro _ h3 ⟨x,rfl,x0,x1,C2,f2⟩;have hnb:zh (.slice a1 l1 c1)≠some b:=fun e=>by have:=N b e;exact H.held this
  have P2:Part .u8 h3 (.slice a1 l1 c1) ys:=P.keep fun y hy=>f2 y fun e=>hnb (e▸hy)
  refine⟨_,rfl,fun b1 hb1=>?_⟩;have s3:qaB h3 (upd h3 b1 (.cells (ints .u8 [IntKind.u8.wrap x]) 5)):=Sub.zC hb1;refine yA hi (C2.sub.trans s3) (P2.sub s3) (fun y hy=>ya H.sub (N y hy)) (ys:=[IntKind.u8.wrap x]) zo.new (by simp only[List.length_singleton];omega) fun v' h4 o n4 s4 keep hblk=>?_
  obtain⟨a4,c4,rfl,_,_⟩:=o.ints;have keep':∀y,upd h3 b1 (.cells (ints .u8 [IntKind.u8.wrap x]) 5) y≠none->zh (.slice a1 l1 c1)≠some y->h4 y=upd h3 b1 (.cells (ints .u8 [IntKind.u8.wrap x]) 5) y:=keep;have h3b:upd h3 b1 (.cells (ints .u8 [IntKind.u8.wrap x]) 5) b=h3 b:=upd_ne fun e=>C2.held (e▸hb1)
  have w2:IntKind.i64.wrap ((l1:Int)+1)=((l1+1:Nat):Int):=zr;have el:(ys++[IntKind.u8.wrap x]).length=l1+1:=by simp[hy]
  rw[el]at o n4 hblk;simp only[zd,zc,ze,w2,el];refine⟨⟨a4,c4,l1+1,_,rfl,by omega,el,o,?_,C2.keep s4 (by rw[keep' b (by rw[h3b];exact C2.held) hnb,h3b]),fun y hy1 hy2=>?_,fun y hy=>?_⟩,by simp only[vB,vA,toInt_int];omega⟩
  ·rcases hblk with e | e
   ·intro y hy;rw[e]at hy;exact N y hy
   ·intro y hy2;have h5:upd h3 b1 (.cells (ints .u8 [IntKind.u8.wrap x]) 5) y=none:=e y hy2;have h6:=ya s3 h5;by_cases hyb:y=b
    ·subst hyb;exact absurd h6 C2.held
    ·rw[f2 y hyb]at h6;cases hh:h y with
     | none=>rfl
     | some o=>rw[f y (by rw[hh];simp) hyb,hh]at h6;cases h6
  ·have h5:h3 y=h y:=by rw[f2 y hy2,f y hy1 hy2]
   have h6:upd h3 b1 (.cells (ints .u8 [IntKind.u8.wrap x]) 5) y=h3 y:=upd_ne fun e=>hy1 (by rw[<-h5,e];exact hb1)
   rw[keep' y (by rw[h6,h5];exact hy1) (fun e=>hy1 (N y e)),h6,h5]
  ·rcases List.mem_append.1 hy with hy | hy
   ·exact hbs y hy
   ·rw[List.mem_singleton.1 hy,IntKind.wrap_u8];omega
 ·obtain rfl:l1=n:=by omega
  exact⟨ys,hy,P,N,C,f,hbs⟩
end
variable {a1:Option Addr}{b1 byt c1 l1:Nat}
section
theorem xP(hi:qaC S h0)(H:zI h0 h b T code a c)(hl:code.length<=1048576)(n:Int)(h1:1<=n)(h2:n<=1000000) :
  zb oPP S yw #[.pointer (some ⟨b,0,none⟩),.int .i64 n] h (fun v h'=>∃x,v=.bool x/\zI h0 h' b T code a c/\∀y,y≠b->h' y=h y):=by
 refine Kr (vs:=[.pointer (some ⟨b,0,none⟩),.int .i64 n]) ⟨rfl,rfl,trivial⟩ (hi.sub H.sub) ?_;simp only[Gr,Tr.wp,z4,Ex.ev,coerce,toInt_int,zx,z9,Cst.val,SV.den,zn,zL,zz,zk,zi,zy,vF,vG,vA,vB,vD,vE,vI,vH,vJ,if_false,vK];refine(zU hi H hl n h1 h2).mono ?_;rintro _ h3 ⟨x,rfl,_,_,C,f⟩;exact⟨_,rfl,_,rfl,C,f⟩
def SE(h0 h:qaA)(b:Nat)(T:TypeId)(code:List Int)(a:Option Addr)(c:Nat)(P:List Int->Prop)(v:Value)(h':qaA):Prop:=
 ∃ys:List Int,P ys/\tB.O h' v ys/\tB.New h v/\zI h0 h' b T code a c/\(∀y,h y≠none->y≠b->h' y=h y)/\∀y∈ys,0<=y/\y<256
theorem WL(hi:qaC S h0)(H:zI h0 h b T code a c){h3:qaA}(hy:ys.length=l1)(P:Part .u8 h3 (.slice a1 l1 c1) ys)(N:∀y,zh (.slice a1 l1 c1)=some y->h y=none)(C2:zI h0 h3 b T code a c)(f:∀y,h y≠none->y≠b->h3 y=h y)(hl:ys.length<=1000000)(hb1:h3 b1=none)(x:Int){ty:TypeId}(hby:byt<=16){K:Value->qaA->Prop}
  (hK:∀a4 c4 h4,Part .u8 h4 (.slice a4 (l1+1) c4) (ys++[x])->(∀y,zh (.slice a4 (l1+1) c4)=some y->h y=none)->zI h0 h4 b T code a c->(∀y,h y≠none->y≠b->h4 y=h y)->K (.slice a4 (l1+1) c4) h4) :
  appW S ty 1 byt [.int .u8 0] (.slice a1 l1 c1) (.slice (some ⟨b1,0,none⟩) 1 1) (upd h3 b1 (.cells (ints .u8 [x]) 5)) K:=by
 have hnb:zh (.slice a1 l1 c1)≠some b:=fun e=>H.held (N b e)
 have s3:qaB h3 (upd h3 b1 (.cells (ints .u8 [x]) 5)):=Sub.zC hb1;have hlen:(ys.length + [x].length)*byt<=1000001*16:=Nat.mul_le_mul (by simp only[List.length_singleton];omega) hby;refine yA hi (C2.sub.trans s3) (P.sub s3) (fun y hy=>ya H.sub (N y hy)) (ys:=[x]) zo.new (Nat.le_trans hlen (by decide)) fun v' h4 o n4 s4 keep hblk=>?_
 obtain⟨a4,c4,rfl,_,_⟩:=o.ints;have h3b:upd h3 b1 (.cells (ints .u8 [x]) 5) b=h3 b:=upd_ne fun e=>C2.held (e▸hb1)
 have el:(ys++[x]).length=l1+1:=by simp[hy]
 rw[el]at o n4 hblk ⊢;refine hK a4 c4 h4 o ?_ (C2.keep s4 (by rw[keep b (by rw[h3b];exact C2.held) hnb,h3b])) (fun y hy1 hy2=>?_)
 ·rcases hblk with e | e
  ·intro y hy;rw[e]at hy;exact N y hy
  ·intro y hy2;have h6:=ya s3 (e y hy2);cases hh:h y with
   | none=>rfl
   | some o=>
    by_cases hyb:y=b
    ·subst hyb;exact absurd h6 C2.held
    ·rw[f y (by rw[hh];simp) hyb,hh]at h6;cases h6
 ·have h5:h3 y=h y:=f y hy1 hy2;have h6:upd h3 b1 (.cells (ints .u8 [x]) 5) y=h3 y:=upd_ne fun e=>hy1 (by rw[<-h5,e];exact hb1)
  rw[keep y (by rw[h6,h5];exact hy1) (fun e=>hy1 (N y e)),h6,h5]
theorem J0(hi:qaC S h0)(H:zI h0 h b T code a c)(hl:code.length<=1048576)(most:Int)(hm1:1<=most)(hm2:most<=100000) :
  zb oPP S qz #[.pointer (some ⟨b,0,none⟩),.int .i64 most] h (SE h0 h b T code a c fun ys=>(ys.length:Int)<most):=by
 refine Kq (vs:=[.pointer (some ⟨b,0,none⟩),.int .i64 most]) ⟨rfl,rfl,trivial⟩ (hi.sub H.sub) ?_;simp only[Gq,Tr.wp,z4,Ex.ev,coerce,toInt_int,za,zc,ze,zd,zx,z9,arith,Cst.val,SV.den,zn,zL,zz,zk,zi,zy,zV,vF,vG,vA,vB,vC,List.getElem?_cons_succ,decide_eq_true_eq,decide_eq_false_iff_not,vD,vE,vI,vH,vJ,if_false,vK];refine(zU hi H hl most hm1 (by omega)).mono ?_;rintro _ h1 ⟨n,rfl,n0,n1,C1,f1⟩;refine⟨_,rfl,?_⟩;refine(xP hi C1 hl 6 (by omega) (by omega)).mono ?_;rintro _ h2 ⟨t,rfl,C2,f2⟩;obtain⟨m,rfl⟩:=Int.eq_ofNat_of_zero_le n0;have back:∀y,h2 y=none->h y=none:=fun y hy=>by
  by_cases hyb:y=b
  ·subst hyb;exact absurd hy C2.held
  ·rw[f2 y hyb,f1 y hyb]at hy;exact hy
 have fw:∀y,y≠b->h2 y=h y:=fun y hyb=>by rw[f2 y hyb,f1 y hyb]
 refine⟨_,rfl,fun ht=>?_,fun ht=>?_⟩
 ·refine(PX hi C2 hl m (by omega)).mono ?_;rintro _ h3 ⟨ys,hy,O,N,C3,f3,hbs⟩;obtain⟨a3,c3,rfl⟩:=So (tB.OR O);exact⟨_,_,_,rfl,ys,by omega,O,fun y hy=>back y (N y hy),C3,fun y h1 h2=>by rw[f3 y (by rw[fw y h2];exact h1) h2,fw y h2],hbs⟩
 ·intro b0 hb0;have s0:qaB h2 (upd h2 b0 (.cells (ints .u8 []) 5)):=Sub.zC hb0;refine⟨fun us h'=>∃(a1:Option Addr) (c1 i:Nat) (ys:List Int),us=[.slice a1 i c1,.int .i64 i]/\i<=m/\ys.length=i/\Part .u8 h' (.slice a1 i c1) ys/\(∀y,zh (.slice a1 i c1)=some y->h y=none)/\zI h0 h' b T code a c/\(∀y,h y≠none->y≠b->h' y=h y)/\∀y∈ys,0<=y/\y<256,
   fun us _=>m-(toInt (us.getD 1 undef)).toNat,⟨_,_,0,[],rfl,by omega,rfl,(Own.made []).part,fun y hy=>back y (New.of hb0 y hy),C2.mono s0,fun y h1 h2=>by rw[upd_ne fun e=>h1 (by rw[<-fw y h2,e];exact hb0),fw y h2],fun y hy=>by cases hy⟩,?_⟩
  rintro a1 l1 c1 x h' ⟨a1',c1',i,ys,hx1,hi2,hy,P,N,C,f,hbs⟩;obtain⟨⟨rfl,rfl,rfl⟩,rfl⟩:(a1=a1'/\l1=i/\c1=c1')/\x=i:=by simpa using hx1
  refine⟨fun hlt=>?_,fun hge=>?_⟩
  ·refine(zU hi C hl 3 (by omega) (by omega)).mono ?_;rintro _ h3 ⟨x,rfl,x0,x1,C3,f3⟩;have hnb:zh (.slice a1 l1 c1)≠some b:=fun e=>H.held (N b e)
   refine⟨_,rfl,fun b1 hb1=>?_⟩;have w2:IntKind.i64.wrap ((l1:Int)+1)=((l1+1:Nat):Int):=zr;refine WL hi H hy (P.keep fun y hy=>f3 y fun e=>hnb (e▸hy)) N C3 (fun y h1 h2=>by rw[f3 y h2,f y h1 h2]) (by omega) hb1 _ (by omega) fun a4 c4 h4 P4 N4 C4 f4=>?_
   simp only[zd,zc,ze,w2];refine⟨⟨a4,c4,l1+1,_,rfl,by omega,by simp[hy],P4,N4,C4,f4,fun y hy=>?_⟩,by simp only[vB,vA,toInt_int];omega⟩;rcases List.mem_append.1 hy with hy | hy
   ·exact hbs y hy
   ·rw[List.mem_singleton.1 hy,IntKind.wrap_u8];omega
  ·obtain rfl:l1=m:=by omega
   exact⟨ys,by omega,P,N,C,f,hbs⟩
end
variable {v v2:Value}{g h' h2:qaA}{zs:List Int}{k:IntKind}
section
structure GSt(k:IntKind)(h0 h h':qaA)(b:Nat)(T:TypeId)(code:List Int)(a:Option Addr)(c:Nat)(v:Value)(ys:List Int):Prop where
 P:Part k h' v ys
 N:∀y,zh v=some y->h y=none
 C:zI h0 h' b T code a c
 F:∀y,h y≠none->y≠b->h' y=h y
theorem GSt.ne(H0:zI h0 h b T code a c)(L:GSt k h0 h h' b T code a c v ys):zh v≠some b:=fun e=>H0.held (L.N b e)
theorem GSt.step{v:Value}{ys:List Int}(H0:zI h0 h b T code a c)(L:GSt k h0 h h' b T code a c v ys){h2:qaA}(C2:zI h0 h2 b T code a c)(f:∀y,h' y≠none->y≠b->h2 y=h' y):GSt k h0 h h2 b T code a c v ys:=
 ⟨L.P.keep fun y hy=>f y (L.P.held y hy) fun e=>L.ne H0 (e▸hy),L.N,C2,fun y hy hne=>by rw[f y (by rw[L.F y hy hne];exact hy) hne,L.F y hy hne]⟩
theorem GSt.cur(H0:zI h0 h b T code a c)(L:GSt k h0 h h' b T code a c v ys)(C2:zI h0 h2 b T code a c)(f:∀y,y≠b->h2 y=h' y):GSt k h0 h h2 b T code a c v ys:=L.step H0 C2 fun y _=>f y
theorem GSt.sub(H0:zI h0 h b T code a c)(L:GSt k h0 h h' b T code a c v ys)(s:qaB h' h2):GSt k h0 h h2 b T code a c v ys:=L.step H0 (L.C.mono s) fun y hy _=>by
 cases hh:h' y with
 | none=>exact absurd hh hy
 | some o=>exact s y o hh
theorem GSt.was(L:GSt k h0 h h' b T code a c v ys)(hb:h b≠none){y:Nat}(hy:h' y=none):h y=none:=by
 cases hh:h y with
 | none=>rfl
 | some o=>
  by_cases e:y=b
  ·subst e;exact absurd hy L.C.held
  ·rw[L.F y (by rw[hh];simp) e,hh]at hy;cases hy
theorem GSt.base(L:GSt k h0 g h' b T code a c v ys)(hg:∀y,h y≠none->y≠b->g y=h y)(hb:g b≠none):GSt k h0 h h' b T code a c v ys:=by
 refine⟨L.P,fun y hy=>?_,L.C,fun y hy hne=>by rw[L.F y (by rw[hg y hy hne];exact hy) hne,hg y hy hne]⟩;have h1:=L.N y hy;cases hh:h y with
 | none=>rfl
 | some o=>
  by_cases e:y=b
  ·subst e;exact absurd h1 hb
  ·rw[hg y (by rw[hh];simp) e,hh]at h1;cases h1
theorem GSt.more(H0:zI h0 h b T code a c)(L:GSt k h0 h h' b T code a c v ys){ys2:List Int}(P2:Part k h2 v2 ys2)(N2:qaD (xy h' v) v2)(s2:qaB (xy h' v) h2):GSt k h0 h h2 b T code a c v2 ys2:=by
 have kp:∀y,h' y≠none->zh v≠some y->h2 y=h' y:=fun y hy hn=>by
  have e:xy h' v y=h' y:=by unfold xy;rw[if_neg hn]
  cases hh:h' y with
  | none=>exact absurd hh hy
  | some o=>exact s2 y o (by rw[e,hh])
 have hs:qaB h0 h2:=fun y o hy=>by
  have h1:=L.C.sub y o hy;have h2':=H0.sub y o hy;rw[kp y (by rw[h1];simp) (fun e=>by rw[L.N y e]at h2';cases h2'),h1]
 refine⟨P2,fun y hy=>?_,L.C.keep hs (kp b L.C.held (L.ne H0)),fun y hy hne=>?_⟩
 ·have h1:=N2 y hy;unfold xy at h1;by_cases e:zh v=some y
  ·exact L.N y e
  ·rw[if_neg e]at h1;exact L.was H0.held h1
 ·rw[kp y (by rw[L.F y hy hne];exact hy) (fun e=>hy (L.N y e)),L.F y hy hne]
theorem GSt.inv(hi:qaC S h0)(H0:zI h0 h b T code a c)(L:GSt k h0 h h' b T code a c v ys):qaB h0 (xy h' v):=fun y o hy=>by
 have h2:=H0.sub y o hy;unfold xy;rw[if_neg (fun e=>by rw[L.N y e]at h2;cases h2)];exact L.C.sub y o hy
theorem GSt.shape(L:GSt k h0 h h' b T code a c v ys):∃a1 c1,v=.slice a1 ys.length c1/\ys.length<=c1/\zo h' k a1 ys:=L.P.ints
theorem GSt.cell(L:GSt k h0 h h' b T code a c (.slice a1 l1 c1) ys)(hi:i<ys.length):l1=ys.length/\(!a1.isNone)=true/\zj h' (((a1.getD default).add (i*1)).add 0)=some (.int k ys[i]):=by
 obtain⟨a',c',e,_,hxx⟩:=L.P.ints;simp only[Value.slice.injEq]at e;obtain⟨rfl,rfl,rfl⟩:=e;obtain⟨g1,g2⟩:=hxx.cell (List.getElem?_eq_getElem hi);exact⟨rfl,by simpa using g2,by simpa[add_add]using g1⟩
theorem GSt.set(hi:qaC S h0)(H0:zI h0 h b T code a c)(L:GSt k h0 h h' b T code a c (.slice a1 l1 c1) ys)(hil:i<ys.length)(x:Int) :
  xE S h' (((a1.getD default).add (i*1)).add 0)/\GSt k h0 h (zQ h' (((a1.getD default).add (i*1)).add 0) (.int k x)) b T code a c (.slice a1 l1 c1) (ys.set i x):=by
 have hnb:=L.ne H0;obtain⟨g1,g2,g3⟩:=FI (S:=S) L.P (fun y hy hs=>hi y hs (ya H0.sub (L.N y hy))) hil x;refine⟨g1,g2,L.N,L.C.keep (fun y o hy=>?_) (g3 b hnb),fun y hy hne=>by rw[g3 y (fun e=>hy (L.N y e)),L.F y hy hne]⟩;have h2:=H0.sub y o hy;rw[g3 y (fun e=>by rw[L.N y e]at h2;cases h2)];exact L.C.sub y o hy
theorem GSt.new(H0:zI h0 h b T code a c)(hb1:h b1=none)(ys:List Int){ty:TypeId}:GSt k h0 h (upd h b1 (.cells (ints k ys) ty)) b T code a c (.slice (some ⟨b1,0,none⟩) ys.length ys.length) ys:=
 ⟨(Own.made ys).part,New.of hb1,H0.mono (Sub.zC hb1),fun y hy _=>upd_ne fun e=>hy (e▸hb1)⟩
theorem GSt.new'(Hg:zI h0 g b T code a c)(hg:∀y,h y≠none->y≠b->g y=h y)(hb1:g b1=none)(ys:List Int){ty:TypeId}:GSt k h0 h (upd g b1 (.cells (ints k ys) ty)) b T code a c (.slice (some ⟨b1,0,none⟩) ys.length ys.length) ys:=
 (GSt.new Hg hb1 ys).base hg Hg.held
theorem GSt.apps(hi:qaC S h0)(H0:zI h0 h b T code a c)(L:GSt k h0 h h' b T code a c v ys)(s1:qaB h' h1)(hz:zo h1 k a1 zs){ty:TypeId}(hby:byt<=16)(hl:ys.length+zs.length<=3000000){K:Value->qaA->Prop}
  (hK:∀a2 c2 h2,GSt k h0 h h2 b T code a c (.slice a2 (ys++zs).length c2) (ys++zs)->(∀y,h1 y≠none->zh v≠some y->h2 y=h1 y)->K (.slice a2 (ys++zs).length c2) h2) :
  appW S ty 1 byt [.int k 0] v (.slice a1 zs.length c1) h1 K:=by
 have hnb:=L.ne H0;have hlen:(ys.length+zs.length)*byt<=3000000*16:=Nat.mul_le_mul hl hby;refine yA hi (L.C.sub.trans s1) (L.P.sub s1) (fun y hy=>ya H0.sub (L.N y hy)) hz (Nat.le_trans hlen (by decide)) fun v' h4 o n4 s4 keep hblk=>?_
 obtain⟨a4,c4,rfl,_,_⟩:=o.ints;have h3b:h1 b=h' b:=by
  cases hh:h' b with
  | none=>exact absurd hh L.C.held
  | some o=>exact s1 b o hh
 refine hK _ _ _ ⟨o,?_,L.C.keep s4 (by rw[keep b (by rw[h3b];exact L.C.held) hnb,h3b]),fun y hy1 hy2=>?_⟩ keep
 ·rcases hblk with e | e
  ·intro y hy;rw[e]at hy;exact L.N y hy
  ·intro y hy2;exact L.was H0.held (ya s1 (e y hy2))
 ·have h5:h' y=h y:=L.F y hy1 hy2;have h6:h1 y=h' y:=by
   cases hh:h' y with
   | none=>rw[h5]at hh;exact absurd hh hy1
   | some o=>exact s1 y o hh
  rw[keep y (by rw[h6,h5];exact hy1) (fun e=>hy1 (L.N y e)),h6,h5]
theorem GSt.app(hi:qaC S h0)(H0:zI h0 h b T code a c)(L:GSt k h0 h h' b T code a c (.slice a1 l1 c1) ys){ty ty2:TypeId}(hby:byt<=16)(hl:ys.length<=1000000)(hb1:h' b1=none){K:Value->qaA->Prop}
  (hK:∀a2 c2 h2,GSt k h0 h h2 b T code a c (.slice a2 (ys++[x]).length c2) (ys++[x])->(∀y,h' y≠none->zh (.slice a1 l1 c1)≠some y->h2 y=h' y)->K (.slice a2 (ys++[x]).length c2) h2) :
  appW S ty 1 byt [.int k 0] (.slice a1 l1 c1) (.slice (some ⟨b1,0,none⟩) 1 1) (upd h' b1 (.cells (ints k [x]) ty2)) K:=
 GSt.apps hi H0 L (zs:=[x]) (Sub.zC hb1) zo.new hby (by simp only[List.length_singleton];omega) fun a2 c2 h2 L2 kp=>hK a2 c2 h2 L2 fun y hy hn=>by
  have e:upd h' b1 (.cells (ints k [x]) ty2) y=h' y:=upd_ne fun e=>hy (e▸hb1)
  rw[kp y (by rw[e];exact hy) hn,e]
theorem GSt.FA(L:GSt k h0 h h' b T code a c (.slice a1 ys.length c1) ys)(hn:n<=ys.length) :
  ∃a2 c2,qa 1 a1 0 n c1=.slice a2 (ys.take n).length c2/\GSt k h0 h h' b T code a c (.slice a2 (ys.take n).length c2) (ys.take n):=by
 obtain⟨_,_,e,hc,_⟩:=L.P.ints;cases e
 obtain⟨a2,c2,e,P2,N2,_⟩:=L.P.FA (h0:=h) L.N hn (show n<=c1 by omega) (Nat.le_refl _);exact⟨a2,c2,e,P2,N2,L.C,L.F⟩
def qu(k:IntKind)(h0 h:qaA)(b:Nat)(T:TypeId)(code:List Int)(a:Option Addr)(c:Nat)(P:List Int->Prop)(v:Value)(h':qaA):Prop:=∃a1 c1 ys,v=.slice a1 ys.length c1/\P ys/\GSt k h0 h h' b T code a c v ys
def jE(zs:List Int):Prop:=∀z∈zs,0<=z/\z<=1
theorem J1(h:jE xs)(g:jE ys):jE (xs++ys):=fun z hz=>(List.mem_append.1 hz).elim (h z) (g z)
def Rest(g:qaA)(v:Value)(h':qaA)(v2:Value):Prop:=∀y,g y≠none->zh v≠some y->h' y=g y/\zh v2≠some y
theorem Rest.refl:Rest g v g v:=fun y _ h=>⟨rfl,h⟩
theorem Rest.trans{v v1 v2:Value}(R:Rest g v h1 v1)(Q:Rest h1 v1 h2 v2):Rest g v h2 v2:=fun y hy hn=>by
 obtain⟨r1,r2⟩:=R y hy hn;obtain⟨q1,q2⟩:=Q y (by rw[r1];exact hy) r2;exact⟨by rw[q1,r1],q2⟩
theorem Rest.of(N2:qaD (xy g v) v2)(s2:qaB (xy g v) h2):Rest g v h2 v2:=fun y hy hn=>by
 have e:xy g v y=g y:=by unfold xy;rw[if_neg hn]
 refine⟨?_,fun e2=>?_⟩
 ·cases hh:g y with
  | none=>exact absurd hh hy
  | some o=>exact s2 y o (by rw[e,hh])
 ·have:=N2 y e2;rw[e]at this;exact hy this
theorem Rest.part{v v2 w:Value}(R:Rest g v h2 v2)(P:Part k g w ys)(hn:∀y,zh w=some y->zh v≠some y):Part k h2 w ys:=P.keep fun y hy=>(R y (P.held y hy) (hn y hy)).1
theorem wD(hi:qaC S h0)(H0:zI h0 h b T code a c)(L:GSt .u8 h0 h h' b T code a c (.slice a1 ys.length c1) ys)(hl:ys.length<=1000000)(o1:jE ys){x n:Int}(hx:0<=x/\x<=100000)(hn:0<=n/\n<=16) :
  zb oPP S yi #[.slice a1 ys.length c1,.int .u64 x,.int .i64 n] h' (fun v h2=>∃a2 c2 zs,v=.slice a2 zs.length c2/\zs.length=ys.length+n.toNat/\jE zs/\GSt .u8 h0 h h2 b T code a c (.slice a2 zs.length c2) zs/\Rest h' (.slice a1 ys.length c1) h2 (.slice a2 zs.length c2)):=by
 obtain⟨x,rfl⟩:=Int.eq_ofNat_of_zero_le hx.1;obtain⟨n,rfl⟩:=Int.eq_ofNat_of_zero_le hn.1;have hw:qaB (xy h' (.slice a1 ys.length c1)) h':=Ut;have K:=XS (hi.sub (L.inv hi H0)) hw L.P Uu x n (by omega) (by omega) (by omega);refine zb.mono K ?_;rintro v h2 ⟨P2,N2,s2⟩;have L2:=L.more H0 P2 N2 s2;obtain⟨a2,c2,rfl,_,_⟩:=P2.ints;exact⟨a2,c2,_,rfl,by rw[List.length_append,FH];rfl,J1 o1 fun z hz=>Uj z hz,L2,Rest.of N2 s2⟩
end
variable {au:Option Addr}{cu:Nat}
section
theorem UU:kr (xs++ys)=kr xs+kr ys:=by simp[kr]
theorem ZX:kr [x]=xv x:=by simp[kr]
theorem Lo:∀ {xs:List Int} {i:Nat} (h:i<xs.length) (x:Int),kr (xs.set i x)=kr xs-xv xs[i]+xv x
 | y::r,0,h,x=>by simp[kr];omega
 | y::r,i+1,h,x=>by
  have:=Lo (xs:=r) (i:=i) (by simpa using h) x;simp only[kr,List.set_cons_succ,vD,List.sum_cons,List.getElem_cons_succ]at this ⊢;omega
theorem UW{y:Int}(h0:1<=y)(h1:y<=14):2*xv (y+1)=xv y:=by
 have:y=1\/y=2\/y=3\/y=4\/y=5\/y=6\/y=7\/y=8\/y=9\/y=10\/y=11\/y=12\/y=13\/y=14:=by omega
 rcases this with rfl | rfl | rfl | rfl | rfl | rfl | rfl | rfl | rfl | rfl | rfl | rfl | rfl | rfl <;> decide
theorem Xl:∀ {xs:List Int},(∀x∈xs,0<=x)->0<=kr xs
 | [],_=>by simp[kr]
 | x::r,h=>by
  have h1:=At x (h x (by simp));have h2:=Xl (xs:=r) fun y hy=>h y (by simp[hy])
  simp only[kr,vD,List.sum_cons]at h2 ⊢;omega
theorem M3{p:Int->Prop}(h:∀y∈xs,p y)(hx:p x):∀y∈xs.set i x,p y:=fun y hy=>by
 rcases List.mem_or_eq_of_mem_set hy with g | g
 ·exact h y g
 ·rw[g];exact hx
theorem WM(hi:qaC S h0)(H:zI h0 h b T code a c)(hl:code.length<=1048576)(n k:Nat)(hn:n<=100)(hk:k<=1000) :
  zb oPP S Cn #[.pointer (some ⟨b,0,none⟩),.int .i64 n,.int .i64 k] h (qu .i64 h0 h b T code a c fun ys=>ys.length<=n/\∀y∈ys,0<=y/\y<n):=by
 refine Ku (vs:=[.pointer (some ⟨b,0,none⟩),.int .i64 n,.int .i64 k]) ⟨rfl,rfl,rfl,trivial⟩ (hi.sub H.sub) ?_;simp only[Gs,Tr.wp,z4,Ex.ev,coerce,toInt_int,za,zc,ze,zd,zx,xg,z9,arith,Cst.val,SV.den,zn,zL,zz,zk,zi,zy,zV,vF,vG,vA,vB,vC,List.getElem?_cons_succ,decide_eq_true_eq,decide_eq_false_iff_not,vD,vE,vI,vH,vJ,if_false,vK];intro b0 hb0;refine⟨fun us h'=>∃(a1:Option Addr) (c1 i:Nat) (ys:List Int),us=[.slice a1 ys.length c1,.int .i64 i]/\i<=n/\ys.length<=i/\(∀y∈ys,0<=y/\y<(n:Int))/\GSt .i64 h0 h h' b T code a c (.slice a1 ys.length c1) ys,
  fun us _=>n-(toInt (us.getD 1 undef)).toNat,⟨_,_,0,[],rfl,by omega,by simp,by simp,GSt.new H hb0 []⟩,?_⟩
 rintro a1 l1 c1 x h' ⟨a1',c1',i,ys,hx1,hi2,hy,hr,L⟩;simp only[List.cons.injEq,Value.int.injEq,Value.slice.injEq,true_and,and_true]at hx1;obtain⟨⟨rfl,rfl,rfl⟩,rfl⟩:=hx1;refine⟨fun hlt=>?_,fun hge=>⟨_,_,ys,rfl,⟨by omega,hr⟩,L⟩⟩;have hlt:(i:Int)<n:=by simp at hlt;omega
 have w1:IntKind.i64.wrap ((n:Int)-(i:Int))=((n-i:Nat):Int):=by rw[i64_in _ (by omega)];omega
 have w4:IntKind.i64.wrap ((i:Int)+1)=((i+1:Nat):Int):=zr;rw[w1,w4];refine(zU hi L.C hl ((n-i:Nat):Int) (by omega) (by omega)).mono ?_;rintro _ h3 ⟨x,rfl,x0,x1,C3,f3⟩;have L3:=L.cur H C3 f3;have meas:n-(toInt (Value.int .i64 ((i+1:Nat):Int))).toNat<n-(toInt (Value.int .i64 (i:Int))).toNat:=by rw[toInt_int,toInt_int];omega
 refine⟨_,rfl,fun hp b1 hb1=>?_,fun hp _=>?_⟩
 ·refine GSt.app hi H L3 (by omega) (by omega) hb1 fun a2 c2 h2 L4 _=>?_
  simp only[zd,zc,ze];refine fun _=>⟨⟨a2,c2,i+1,ys++[(i:Int)],rfl,by omega,by simp;omega,fun y hy=>by
   rcases List.mem_append.1 hy with hy | hy
   ·exact hr y hy
   ·simp only[List.mem_singleton]at hy;omega,L4⟩,meas⟩
 ·exact⟨⟨_,_,i+1,ys,rfl,by omega,by omega,hr,L3⟩,meas⟩
def SF(m:Int)(ys:List Int):Prop:=(∀y∈ys,1<=y/\y<=m)/\kr ys=32768
theorem SG(hi:qaC S h0)(H:zI h0 h b T code a c)(hl:code.length<=1048576)(n:Nat)(hn:n<=400)(m:Int)(hm:1<=m/\m<=15) :
  zb oPP S AT #[.pointer (some ⟨b,0,none⟩),.int .i64 n,.int .i64 m] h (qu .i64 h0 h b T code a c fun ys=>ys.length<=1000/\SF m ys):=by
 refine I2 (vs:=[.pointer (some ⟨b,0,none⟩),.int .i64 n,.int .i64 m]) ⟨rfl,rfl,rfl,trivial⟩ (hi.sub H.sub) ?_;simp only[DX,Tr.wp,z4,Ex.ev,coerce,toInt_int,za,zc,ze,zd,zf,zx,zM,xg,z9,arith,Cst.val,SV.den,zn,zL,zz,zk,zi,zy,zV,zq,yk,vF,vG,vA,vB,vC,List.getElem?_cons_succ,decide_eq_true_eq,decide_eq_false_iff_not,vD,vE,vI,vH,vJ,and_true,if_false,vK];intro b0 hb0;refine⟨fun us h'=>∃(a1:Option Addr) (c1:Nat) (ys:List Int),us=[.slice a1 ys.length c1]/\2<=ys.length/\ys.length<=402/\SF m ys/\GSt .i64 h0 h h' b T code a c (.slice a1 ys.length c1) ys,
  fun us _=>500-slL (us.getD 0 undef),⟨_,_,[1,1],rfl,by simp,by simp,⟨by simp;omega,by decide⟩,GSt.new H hb0 [1,1]⟩,?_⟩
 rintro a1 l1 c1 h' ⟨a1',c1',ys,hx1,hy2,hy,G,L⟩;simp only[List.cons.injEq,Value.slice.injEq,and_true]at hx1;obtain⟨rfl,rfl,rfl⟩:=hx1;refine⟨fun hlt=>?_,fun hge=>⟨_,_,ys,rfl,⟨by omega,G⟩,L⟩⟩;refine(zU hi L.C hl ((ys.length:Nat):Int) (by omega) (by omega)).mono ?_;rintro _ h3 ⟨x,rfl,x0,x1,C3,f3⟩;have L3:=L.cur H C3 f3;refine⟨_,rfl,?_⟩;refine⟨fun us h'=>∃i k:Nat,us=[.int .i64 i,.int .i64 k]/\i<ys.length/\k<=ys.length/\h'=h3,fun us _=>500-(toInt (us.getD 1 undef)).toNat,?_,?_⟩
 ·obtain⟨i,rfl⟩:=Int.eq_ofNat_of_zero_le x0;exact⟨i,0,rfl,by omega,by omega,rfl⟩
 rintro x y h4 ⟨i,k,hx2,hi2,hk2,rfl⟩;simp only[List.cons.injEq,Value.int.injEq,true_and,and_true]at hx2;obtain⟨rfl,rfl⟩:=hx2;obtain⟨_,g2,g3⟩:=L3.cell hi2;refine⟨g2,by omega,by omega,_,g3,fun hgo=>?_,fun hst=>?_⟩
 ·have hkl:(k:Int)<ys.length:=by simp at hgo;omega
  have w1:IntKind.i64.wrap ((i:Int)+1)=((i+1:Nat):Int):=zr;have w2:IntKind.i64.wrap ((k:Int)+1)=((k+1:Nat):Int):=zr;have w3:((i+1:Nat):Int).tmod ((ys.length:Nat):Int)=(((i+1)%ys.length:Nat):Int):=by rw[Int.tmod_eq_emod_of_nonneg (by omega)];exact(Int.natCast_emod _ _).symm
  have hz:(ys.length:Int)≠0:=by omega
  rw[w1,w2,w3];refine⟨by simpa using hz,⟨_,_,rfl,Nat.mod_lt _ (by omega),by omega,rfl⟩,?_⟩;show 500-(toInt (Value.int .i64 ((k+1:Nat):Int))).toNat<500-(toInt (Value.int .i64 (k:Int))).toNat;rw[toInt_int,toInt_int];omega
 ·refine⟨g2,by omega,by omega,_,g3,fun _=>⟨_,_,ys,rfl,⟨by omega,G⟩,L3⟩,fun hne=>⟨g2,by omega,by omega,_,g3,g2,by omega,by omega,?_⟩⟩;have hyi:=G.1 ys[i] (List.getElem_mem hi2);have hne:ys[i]≠m:=by simpa using hne
  have wy:IntKind.i64.wrap (ys[i]+1)=ys[i]+1:=i64_in _ (by omega);rw[wy];obtain⟨o1,L4⟩:=L3.set hi H hi2 (ys[i]+1);have e4:(ys.set i (ys[i]+1))[i]'(by rw[List.length_set];exact hi2)=ys[i]+1:=by simp
  have G4:SF m (ys.set i (ys[i]+1)++[ys[i]+1]):=by
   refine⟨fun y hy=>?_,?_⟩
   ·rcases List.mem_append.1 hy with hy | hy
    ·exact M3 (p:=fun y=>1<=y/\y<=m) G.1 (by omega) y hy
    ·simp only[List.mem_singleton]at hy;omega
   ·have:=UW hyi.1 (by omega);rw[UU,ZX,Lo hi2,G.2];omega
  obtain⟨zs,hzs⟩:∃zs,zs=ys.set i (ys[i]+1):=⟨_,rfl⟩;have hl4:zs.length=ys.length:=by rw[hzs,List.length_set]
  have hi4:i<zs.length:=by omega
  have e4':zs[i]=ys[i]+1:=by simp[hzs]
  rw[<-hzs]at L4 G4;refine⟨o1,g2,by omega,by omega,?_⟩;obtain⟨_,g5,g6⟩:=L4.cell hi4;refine⟨_,g6,fun b1 hb1=>?_⟩;rw[e4'];refine GSt.app hi H L4 (by omega) (by omega) hb1 fun a2 c2 h2 L5 _=>?_
  simp only[zd,zc,ze];have hl5:zs.length+1=(zs++[ys[i]+1]).length:=by simp
  refine⟨⟨_,_,_,rfl,by omega,by omega,G4,L5⟩,?_⟩;show 500-slL (Value.slice a2 _ c2)<500-slL (Value.slice a1 ys.length c1);rw[zc,zc,<-hl5];omega
def wU(ys:List Int):Prop:=(∀y∈ys,0<=y/\y<=15)/\kr ys<=32768
theorem HH(h:wU ys)(hl:ys.length<=320):¬(zt ys=0\/zt ys=2):=by
 unfold zt;rw[if_neg (by omega),if_neg (fun e=>e h.1)];split
 ·decide
 ·rw[if_neg (by have:=h.2;omega)];split
  ·decide
  ·split <;> decide
theorem ZY(a:Addr)(n:Nat):(a.add n).block=a.block:=by unfold Addr.add;split <;> rfl
theorem FU(hi:qaC S h0)(H:zI h0 h b T code a c)(hl:code.length<=1048576)(n:Nat)(hn:n<=400)(U:Part .i64 h (.slice au us.length cu) us)(hub:zh (.slice au us.length cu)≠some b)(hul:us.length<=400)(hur:∀y∈us,0<=y/\y<(n:Int))(m:Int)(hm:1<=m/\m<=15) :
  zb oPP S kj #[.pointer (some ⟨b,0,none⟩),.int .i64 n,.slice au us.length cu,.int .i64 m] h (qu .i64 h0 h b T code a c fun ys=>ys.length=n/\wU ys/\∀y∈ys,y<=m):=by
 refine I1 (vs:=[.pointer (some ⟨b,0,none⟩),.int .i64 n,.slice au us.length cu,.int .i64 m]) ⟨rfl,rfl,rfl,rfl,trivial⟩ (hi.sub H.sub) ?_;rw[DW];simp only[Tr.wp,Ex.ev,coerce,toInt_int,za,zc,ze,zd,zf,zM,z9,arith,Cst.val,zy,zV,zq,yk,vA,vB,vC,List.getElem?_cons_succ,decide_eq_true_eq,decide_eq_false_iff_not,vD,vE,vI,vH,and_true];have useU:∀ {h':qaA},(∀y,h y≠none->y≠b->h' y=h y)->zo h' .i64 au us:=fun f=>by
  have:=U.keep fun y hy=>f y (U.held y hy) fun e=>hub (e▸hy)
  obtain⟨_,_,e,_,hx⟩:=this.ints;cases e
  exact hx
 intro b0 hb0;refine⟨fun vs h'=>∃(a1:Option Addr) (c1:Nat) (ys:List Int),vs=[.slice a1 ys.length c1,.int .i64 ys.length]/\ys.length<=n/\(∀y∈ys,y=0)/\GSt .i64 h0 h h' b T code a c (.slice a1 ys.length c1) ys,
  fun vs _=>n-(toInt (vs.getD 1 undef)).toNat,⟨_,_,[],rfl,by simp,by simp,GSt.new H hb0 []⟩,?_⟩
 rintro a1 l1 c1 x h' ⟨a1',c1',ys,hx1,hy,hz0,L⟩;simp only[List.cons.injEq,Value.int.injEq,Value.slice.injEq,true_and,and_true]at hx1;obtain⟨⟨rfl,rfl,rfl⟩,rfl⟩:=hx1;refine⟨fun hlt b1 hb1=>?_,fun hge=>?_⟩
 ·have w4:IntKind.i64.wrap ((ys.length:Int)+1)=((ys.length+1:Nat):Int):=zr;rw[w4];refine GSt.app hi H L (by omega) (by omega) hb1 fun a2 c2 h2 L4 _=>?_
  simp only[zd,zc,ze];have el:ys.length+1=(ys++[(0:Int)]).length:=by simp
  refine⟨⟨_,_,_,by rw[el],by omega,fun y hy=>?_,L4⟩,?_⟩
  ·rcases List.mem_append.1 hy with hy | hy
   ·exact hz0 y hy
   ·simpa using hy
  ·show n-(toInt (Value.int .i64 ((ys.length+1:Nat):Int))).toNat<n-(toInt (Value.int .i64 (ys.length:Int))).toNat;rw[toInt_int,toInt_int];omega
 obtain rfl:ys.length=n:=by omega
 clear hge hy;have kz:kr ys=0:=Ib (by
  have:=Kz ys
  have:∀(zs:List Int),(∀y∈zs,y=0)->cn zs=0:=fun zs=>by
   induction zs with
   | nil=>intro _;rfl
   | cons z r ih=>intro hz;have:=ih fun y hy=>hz y (by simp[hy]);have h0:=hz z (by simp);subst h0;simpa[cn]using this
  exact this ys hz0)
 have fin:∀(zs:List Int) (h2:qaA),zs.length=ys.length->(∀y∈zs,0<=y/\y<=m)->kr zs<=32768->GSt .i64 h0 h h2 b T code a c (.slice a1 ys.length c1) zs ->
   qu .i64 h0 h b T code a c (fun ys_1=>ys_1.length=ys.length/\wU ys_1/\∀y∈ys_1,y<=m) (.slice a1 ys.length c1) h2:=fun zs h2 hz hr hk L=>by
  rw[<-hz]at L ⊢;exact⟨_,_,zs,rfl,⟨rfl,⟨fun y hy=>by have:=hr y hy;omega,hk⟩,fun y hy=>(hr y hy).2⟩,L⟩
 have key:∀(zs:List Int) (h2:qaA) (Ks:List Kt),zs.length=ys.length->(∀y∈zs,0<=y/\y<=m)->(kr zs<=32768/\(us.length≠1->kr zs=0))->GSt .i64 h0 h h2 b T code a c (.slice a1 ys.length c1) zs ->
   VF.wp oPP S yb (qu .i64 h0 h b T code a c fun ys_1=>ys_1.length=ys.length/\wU ys_1/\∀y∈ys_1,y<=m)
    [.pointer (some ⟨b,0,none⟩),.int .i64 ys.length,.slice au us.length cu,.int .i64 m,.slice (some ⟨b0,0,none⟩) 0 0,.slice a1 ys.length c1,.int .i64 ys.length] h2 ([Ks.getD 0 (fun _ _=>False),Ks.getD 1 (fun _ _=>False)]):=by
  intro zs h2 Ks hz hr hk L;simp only[VF,Tr.wp,z4,Ex.ev,coerce,toInt_int,za,zc,ze,zd,zf,zx,zM,xg,z9,arith,Cst.val,SV.den,zn,zL,zz,zk,zi,zy,zV,zq,yk,vF,vG,vA,vB,vC,List.getElem?_cons_succ,decide_eq_true_eq,decide_eq_false_iff_not,vD,vE,vI,vH,vJ,and_true,if_false,vK];refine⟨fun hg=>?_,fun _ _=>fin zs h2 hz hr hk.1 L⟩;have hk0:kr zs=0:=hk.2 (fun e=>by rw[e]at hg;simp at hg);refine(SG hi L.C hl us.length hul m hm).mono ?_;rintro _ h3 ⟨al,cl,ls,rfl,⟨hls,G⟩,M⟩;refine⟨al,ls.length,cl,rfl,?_⟩;refine⟨fun vs h'=>∃(i:Nat) (qs:List Int),vs=[.int .i64 i]/\i<=us.length/\qs.length=ys.length/\(∀y∈qs,0<=y/\y<=m)/\kr qs<=kr (ls.take i)/\GSt .i64 h0 h h' b T code a c (.slice a1 ys.length c1) qs/\Part .i64 h' (.slice al ls.length cl) ls/\(∀y,zh (.slice al ls.length cl)=some y->zh (.slice a1 ys.length c1)≠some y),
   fun vs _=>us.length-(toInt (vs.getD 0 undef)).toNat,?_,?_⟩
  ·have hb1:∀y,zh (.slice a1 ys.length c1)=some y->h2 y≠none:=by rw[<-hz]at L ⊢;exact L.P.held
   refine⟨0,zs,rfl,by omega,hz,hr,by rw[hk0];simp[kr],L.step H M.C fun y hy hne=>M.F y hy hne,M.P,fun y e1 e2=>hb1 y e2 (M.N y e1)⟩
  rintro i h4 ⟨i',qs,hx2,hi2,hq,hqr,hqk,L4,P4,hne⟩;simp only[List.cons.injEq,Value.int.injEq,true_and,and_true]at hx2;subst hx2;have kt:∀j,kr (ls.take j)<=32768:=fun j=>by
   have e:kr (ls.take j)+kr (ls.drop j)=kr ls:=by rw[<-UU,List.take_append_drop]
   have:=Xl (xs:=ls.drop j) fun x hx=>by have:=G.1 x (List.mem_of_mem_drop hx);omega
   have:=G.2;omega
  refine⟨fun hc=>?_,fun _ _=>fin qs h4 hq hqr (Int.le_trans hqk (kt _)) L4⟩;have hlt:i'<us.length/\i'<ls.length:=by simp at hc;omega
  obtain⟨g1,g2⟩:=(useU (h':=h4) L4.F).cell (List.getElem?_eq_getElem hlt.1);obtain⟨al2,cl2,e2,_,hl4⟩:=P4.ints;simp only[Value.slice.injEq,true_and]at e2;obtain⟨rfl,rfl⟩:=e2;obtain⟨g3,g4⟩:=hl4.cell (List.getElem?_eq_getElem hlt.2);have hr2:=hur us[i'] (List.getElem_mem hlt.1);obtain⟨q,hq0⟩:=Int.eq_ofNat_of_zero_le hr2.1;have hql:q<qs.length:=by omega
  have hlr:=G.1 ls[i'] (List.getElem_mem hlt.2);obtain⟨o1,L5⟩:=L4.set hi H hql ls[i'];have hl1:=L4.cell hql;have nz:(!au.isNone)=true:=by simpa using g2
  have nz2:(!al.isNone)=true:=by simpa using g4
  have w4:IntKind.i64.wrap ((i':Int)+1)=((i'+1:Nat):Int):=zr;refine⟨nz,by omega,by omega,us[i'],by simpa[add_add]using g1,nz2,by omega,by omega,ls[i'],by simpa[add_add]using g3,hl1.2.1,hr2.1,by omega,?_,?_,?_⟩
  ·rw[hq0];exact o1
  ·rw[hq0,w4];refine⟨i'+1,qs.set q ls[i'],rfl,by omega,by rw[List.length_set];exact hq,M3 (p:=fun y=>0<=y/\y<=m) hqr (by omega),?_,L5,P4.keep fun y hy=>?_,hne⟩
   ·rw[Lo hql,B7 hlt.2];have:=At qs[q] (hqr _ (List.getElem_mem hql)).1;omega
   ·cases a1 with
    | none=>simp at hl1
    | some A=>simp only[zQ];rw[if_neg (fun e=>hne y hy (by rw[e];simp[zh,ZY]))]
  ·rw[w4];show us.length-(toInt (Value.int .i64 ((i'+1:Nat):Int))).toNat<us.length-(toInt (Value.int .i64 (i':Int))).toNat;rw[toInt_int,toInt_int];omega
 have hz:∀y∈ys,0<=y/\y<=m:=fun y hy=>by rw[hz0 y hy];omega
 refine⟨fun h1=>?_,fun _ _=>key ys h' [_,_] rfl hz ⟨by omega,fun _=>kz⟩ L⟩;have h1:us.length=1:=by simp at h1;omega
 have hlt:0<us.length:=by omega
 obtain⟨g1,g2⟩:=(useU (h':=h') L.F).cell (List.getElem?_eq_getElem hlt);have nz:(!au.isNone)=true:=by simpa using g2
 have hr:=hur us[0] (List.getElem_mem hlt);obtain⟨q,hq0⟩:=Int.eq_ofNat_of_zero_le hr.1;have hql:q<ys.length:=by omega
 obtain⟨o1,L5⟩:=L.set hi H hql 1;refine⟨nz,by simp,by omega,us[0],by simpa[add_add]using g1,(L.cell hql).2.1,hr.1,hr.2,by rw[hq0];exact o1,fun _=>?_⟩;rw[hq0];refine key (ys.set q 1) _ [_,_] (by rw[List.length_set]) (M3 (p:=fun y=>0<=y/\y<=m) hz (by omega)) ⟨?_,fun e=>absurd h1 e⟩ L5;have:=At ys[q] (hz _ (List.getElem_mem hql)).1;have:xv 1=16384:=by decide
 rw[Lo hql,kz];omega
end
section
def srt(ys:List Int):Prop:=ys.Pairwise (· <= ·)
theorem M4(h:srt ys)(hx:∀y∈ys,y<=x):srt (ys++[x]):=
 List.pairwise_append.2 ⟨h,List.pairwise_singleton _ _,fun a ha b hb=>by rw[List.mem_singleton.1 hb];exact hx a ha⟩
theorem PY(h:srt ys)(hn:ys.length=n+1):∀y∈ys,y<=ys[n]'(by omega):=fun y hy=>by
 obtain⟨i,hi,rfl⟩:=List.getElem_of_mem hy;by_cases e:i=n
 ·subst e;exact Int.le_refl _
 ·exact List.pairwise_iff_getElem.1 h i n _ _ (by omega)
theorem Is{p:Int->Prop}(h:∀y∈xs,p y)(hx:p x):∀y∈xs++[x],p y:=fun y hy=>by
 rcases List.mem_append.1 hy with g | g
 ·exact h y g
 ·rw[List.mem_singleton.1 g];exact hx
def SH(h0 h:qaA)(b:Nat)(T:TypeId)(code:List Int)(a:Option Addr)(c:Nat)(v:Value)(h':qaA):Prop:=
 ∃a1 c1 xs a2 c2 ds,v=.tuple #[.slice a1 xs.length c1,.slice a2 ds.length c2]/\GSt .i64 h0 h h' b T code a c (.slice a1 xs.length c1) xs/\GSt .i64 h0 h h' b T code a c (.slice a2 ds.length c2) ds/\(257<=xs.length/\xs.length<=288)/\wU xs/\(1<=ds.length/\ds.length<=32)/\wU ds
theorem Xm(hi:qaC S h0)(H:zI h0 h b T code a c)(hl:code.length<=1048576)(L:GSt .i64 h0 h g b T code a c (.slice au us.length cu) us)(hul:us.length<=400)(hn:257<=n/\n<=286)(hur:∀y∈us,0<=y/\y<(n:Int))(Ks:List Kt)(e1 e2 e3 e4 e5 e6 e7 e8 e9:Value) :
  dlT.wp oPP S yb (SH h0 h b T code a c) [.pointer (some ⟨b,0,none⟩),e1,e2,e3,e4,e5,e6,e7,e8,e9,.slice au us.length cu,.int .i64 n] g Ks:=by
 simp only[dlT,Tr.wp,z4,Ex.ev,coerce,toInt_int,za,zc,ze,zd,zx,xL,arith,Cst.val,SV.den,zn,zL,zz,zk,zi,zy,vF,vG,vA,vB,vD,vE,vI,vH,vJ,if_false,vK];refine(zU hi L.C hl 12 (by omega) (by omega)).mono ?_;rintro _ h1 ⟨x,rfl,x0,x1,C1,f1⟩;have L1:=L.cur H C1 f1;refine⟨_,rfl,?_⟩;refine(xP hi C1 hl 6 (by omega) (by omega)).mono ?_;rintro _ h2 ⟨t,rfl,C2,f2⟩;have L2:=L1.cur H C2 f2;refine⟨_,rfl,?_⟩;obtain⟨m,hm,m1,m2⟩:∃m:Nat,(if t=true then(30:Int)else IntKind.i64.wrap (1+x))=m/\1<=m/\m<=30:=by
  obtain⟨y,rfl⟩:=Int.eq_ofNat_of_zero_le x0;cases t
  ·exact⟨1+y,by rw[if_neg (by decide)];exact zr,by omega,by omega⟩
  ·exact⟨30,by simp,by omega,by omega⟩
 simp only[hm];have w:IntKind.i64.wrap ((m:Int)+1)=((m+1:Nat):Int):=zr;rw[w];refine(zU hi C2 hl ((m+1:Nat):Int) (by omega) (by omega)).mono ?_;rintro _ h3 ⟨y,rfl,y0,y1,C3,f3⟩;have L3:=L2.cur H C3 f3;obtain⟨y,rfl⟩:=Int.eq_ofNat_of_zero_le y0;refine⟨_,rfl,?_⟩;refine(WM hi C3 hl m y (by omega) (by omega)).mono ?_;rintro _ h4 ⟨ad,cd,ds,rfl,⟨hd1,hd2⟩,D4⟩;have L4:=L3.step H D4.C D4.F;refine⟨_,_,_,rfl,?_⟩;refine(FU hi D4.C hl n (by omega) L4.P (L4.ne H) hul hur 15 (by omega)).mono ?_;rintro _ h5 ⟨al,cl,ls,rfl,⟨ll,lf,_⟩,M5⟩;have D5:=D4.step C3 M5.C M5.F;refine⟨_,_,_,rfl,?_⟩;refine(FU hi M5.C hl m (by omega) D5.P (D5.ne C3) (by omega) hd2 15 (by omega)).mono ?_;rintro _ h6 ⟨a6,c6,zs,rfl,⟨l6,f6,_⟩,M6⟩;refine⟨_,_,_,rfl,?_⟩;have M7:=M5.step D4.C M6.C M6.F;have fw:∀y,h y≠none->y≠b->h4 y=h y:=L4.F;exact⟨_,_,ls,_,_,zs,rfl,M7.base fw D4.C.held,M6.base (fun y hy hne=>by rw[M5.F y (by rw[fw y hy hne];exact hy) hne,fw y hy hne]) M5.C.held,by omega,lf,by omega,f6⟩
theorem Qa(hi:qaC S h0)(H:zI h0 h b T code a c)(hl:code.length<=1048576) :
  zb oPP S wS #[.pointer (some ⟨b,0,none⟩)] h (SH h0 h b T code a c):=by
 refine Gz (vs:=[.pointer (some ⟨b,0,none⟩)]) ⟨rfl,trivial⟩ (hi.sub H.sub) ?_;rw[CE];simp only[Tr.wp,z4,Ex.ev,coerce,toInt_int,za,zc,ze,zd,zf,zx,zM,xW,jI,z9,arith,Cst.val,SV.den,zn,zL,zz,zk,zi,zy,zV,zq,vF,vG,vA,vB,vC,List.getElem?_cons_succ,decide_eq_true_eq,decide_eq_false_iff_not,vD,vE,vI,vH,vJ,and_true,if_false,vK];intro b0 hb0;refine⟨fun us h'=>∃(a1:Option Addr) (c1 s:Nat) (ys:List Int),us=[.slice a1 ys.length c1,.int .i64 s]/\97<=s/\s<=100/\ys.length<=s-97/\(∀y∈ys,97<=y/\y<(s:Int))/\srt ys/\GSt .i64 h0 h h' b T code a c (.slice a1 ys.length c1) ys,
  fun us _=>100-(toInt (us.getD 1 undef)).toNat,⟨_,_,97,[],rfl,by omega,by omega,by simp,by simp,List.Pairwise.nil,GSt.new H hb0 []⟩,?_⟩
 rintro a1 l1 c1 x h' ⟨a1',c1',s,ys,hx1,hs1,hs2,hy,hr,hS,L⟩;simp only[List.cons.injEq,Value.int.injEq,Value.slice.injEq,true_and,and_true]at hx1;obtain⟨⟨rfl,rfl,rfl⟩,rfl⟩:=hx1;refine⟨fun hlt=>?_,fun hge b1 hb1=>?_⟩
 ·have w4:IntKind.i64.wrap ((s:Int)+1)=((s+1:Nat):Int):=zr;rw[w4];refine(zU hi L.C hl 4 (by omega) (by omega)).mono ?_;rintro _ h3 ⟨x,rfl,x0,x1,C3,f3⟩;have L3:=L.cur H C3 f3;have meas:100-(toInt (Value.int .i64 ((s+1:Nat):Int))).toNat<100-(toInt (Value.int .i64 (s:Int))).toNat:=by rw[toInt_int,toInt_int];omega
  refine⟨_,rfl,fun hp b1 hb1=>?_,fun hp _=>?_⟩
  ·refine GSt.app hi H L3 (by omega) (by omega) hb1 fun a2 c2 h2 L4 _=>?_
   simp only[zd,zc,ze];exact fun _=>⟨⟨a2,c2,s+1,_,rfl,by omega,by omega,by simp;omega,Is (p:=fun y=>97<=y/\y<((s+1:Nat):Int)) (fun y hy=>by have:=hr y hy;omega) (by omega),M4 hS fun y hy=>by have:=hr y hy;omega,L4⟩,meas⟩
  ·exact⟨⟨_,_,s+1,ys,rfl,by omega,by omega,by omega,fun y hy=>by have:=hr y hy;omega,hS,L3⟩,meas⟩
 obtain rfl:s=100:=by omega
 refine GSt.app hi H L (by omega) (by omega) hb1 fun a2 c2 h2 L2 _=>?_
 simp only[zd,zc,ze];refine⟨fun us h'=>∃(a1:Option Addr) (c1 s:Nat) (ys:List Int),us=[.slice a1 ys.length c1,.int .i64 s]/\257<=s/\s<=286/\(1<=ys.length/\ys.length<=s-97)/\(∀y∈ys,97<=y/\y<(s:Int))/\(∃y∈ys,(256:Int)<=y)/\srt ys/\GSt .i64 h0 h h' b T code a c (.slice a1 ys.length c1) ys,
  fun us _=>286-(toInt (us.getD 1 undef)).toNat,⟨_,_,257,_,rfl,by omega,by omega,by simp;omega,Is (p:=fun y=>97<=y/\y<((257:Nat):Int)) (fun y hy=>by have:=hr y hy;omega) (by omega),⟨256,by simp,by omega⟩,M4 hS fun y hy=>by have:=hr y hy;omega,L2⟩,?_⟩
 clear L2 L hr hS hy;rintro a3 l3 c3 x h3 ⟨a3',c3',s,us,hx2,hs1,hs2,hu,hr,hbig,hS,L⟩;simp only[List.cons.injEq,Value.int.injEq,Value.slice.injEq,true_and,and_true]at hx2;obtain⟨⟨rfl,rfl,rfl⟩,rfl⟩:=hx2;refine⟨fun hlt=>?_,fun hge=>?_⟩
 ·have w4:IntKind.i64.wrap ((s:Int)+1)=((s+1:Nat):Int):=zr;rw[w4];refine(xP hi L.C hl 5 (by omega) (by omega)).mono ?_;rintro _ h4 ⟨t,rfl,C4,f4⟩;have L4:=L.cur H C4 f4;have meas:286-(toInt (Value.int .i64 ((s+1:Nat):Int))).toNat<286-(toInt (Value.int .i64 (s:Int))).toNat:=by rw[toInt_int,toInt_int];omega
  refine⟨_,rfl,fun hp b1 hb1=>?_,fun hp _=>?_⟩
  ·refine GSt.app hi H L4 (by omega) (by omega) hb1 fun a5 c5 h5 L5 _=>?_
   simp only[zd,zc,ze];obtain⟨y,hy1,hy2⟩:=hbig;exact fun _=>⟨⟨a5,c5,s+1,_,rfl,by omega,by omega,by simp;omega,Is (p:=fun y=>97<=y/\y<((s+1:Nat):Int)) (fun y hy=>by have:=hr y hy;omega) (by omega),⟨y,List.mem_append_left _ hy1,hy2⟩,M4 hS fun y hy=>by have:=hr y hy;omega,L5⟩,meas⟩
  ·exact⟨⟨_,_,s+1,us,rfl,by omega,by omega,by omega,fun y hy=>by have:=hr y hy;omega,hbig,hS,L4⟩,meas⟩
 obtain rfl:s=286:=by omega
 obtain⟨m,hm⟩:∃m,us.length=m+1:=⟨us.length-1,by omega⟩;have hml:m<us.length:=by omega
 have wm:IntKind.i64.wrap ((us.length:Int)-1)=((m:Nat):Int):=by rw[i64_in _ (by omega)];omega
 obtain⟨_,g2,g3⟩:=L.cell hml;have hlast:=PY hS hm;have hrl:=hr us[m] (List.getElem_mem hml);rw[wm];refine⟨g2,by omega,by omega,us[m],g3,?_⟩;refine(xP hi L.C hl 3 (by omega) (by omega)).mono ?_;rintro _ h4 ⟨t,rfl,C4,f4⟩;have L4:=L.cur H C4 f4;refine⟨_,rfl,fun ht=>?_,fun ht _=>?_⟩
 ·refine(zU hi C4 hl 30 (by omega) (by omega)).mono ?_;rintro _ h5 ⟨x,rfl,x0,x1,C5,f5⟩;have L5:=L4.cur H C5 f5;obtain⟨x,rfl⟩:=Int.eq_ofNat_of_zero_le x0;have wx:IntKind.i64.wrap (257+(x:Int))=((257+x:Nat):Int):=zr;refine⟨_,rfl,?_⟩;rw[wx];refine⟨fun vs h'=>∃(a1:Option Addr) (c1:Nat) (ys:List Int),vs=[.slice a1 ys.length c1]/\ys.length<=189/\(∀y∈ys,97<=y/\y<((286:Nat):Int))/\srt ys/\GSt .i64 h0 h h' b T code a c (.slice a1 ys.length c1) ys,
   fun vs _=>slL (vs.getD 0 undef),⟨_,_,us,rfl,by omega,hr,hS,L5⟩,?_⟩
  rintro a6 l6 c6 h6 ⟨a6',c6',ws,hx3,hw,hwr,hwS,L6⟩;simp only[List.cons.injEq,Value.slice.injEq,and_true]at hx3;obtain⟨rfl,rfl,rfl⟩:=hx3;have out:(∀y∈ws,y<((257+x:Nat):Int))->∀(Ks:List Kt) (e1 e2 e3 e4 e5 e6 e7 e8 e9:Value),dlT.wp oPP S yb (SH h0 h b T code a c) [.pointer (some ⟨b,0,none⟩),e1,e2,e3,e4,e5,e6,e7,e8,e9,.slice a6 ws.length c6,.int .i64 ((257+x:Nat):Int)] h6 Ks:=fun hlt Ks e1 e2 e3 e4 e5 e6 e7 e8 e9=>
   Xm hi H hl L6 (by omega) (by omega) (fun y hy=>⟨by have:=hwr y hy;omega,hlt y hy⟩) Ks e1 e2 e3 e4 e5 e6 e7 e8 e9
  refine⟨fun hpos=>?_,fun hzero=>?_⟩
  ·obtain⟨q,hq⟩:∃q,ws.length=q+1:=⟨ws.length-1,by omega⟩;have hql:q<ws.length:=by omega
   have wq:IntKind.i64.wrap ((ws.length:Int)-1)=((q:Nat):Int):=by rw[i64_in _ (by omega)];omega
   obtain⟨_,g4,g5⟩:=L6.cell hql;rw[wq];refine⟨g4,by omega,by omega,ws[q],g5,fun _=>⟨fun hge=>⟨by omega,?_⟩,fun hlt _=>?_⟩⟩
   ·obtain⟨_,_,ei,hci,_⟩:=L6.P.ints;cases ei
    refine⟨by omega,?_⟩;obtain⟨a7,c7,e7,L7⟩:=L6.FA (n:=q) (by omega);rw[Int.toNat_natCast,e7];have hl7:(ws.take q).length=q:=by rw[List.length_take];omega
    refine⟨⟨_,_,ws.take q,rfl,by omega,fun y hy=>hwr y (List.mem_of_mem_take hy),hwS.sublist (List.take_sublist _ _),L7⟩,?_⟩;simp only[vA,zc];omega
   ·have hlw:=PY hwS hq;exact out (fun y hy=>by have:=hlw y hy;simp at hlt;omega) _ _ _ _ _ _ _ _ _ _
  ·exact fun _=>⟨fun hf=>hf.elim,fun _ _=>out (fun y hy=>by have:ws=[]:=List.length_eq_zero_iff.1 (by omega);subst this;cases hy) _ _ _ _ _ _ _ _ _ _⟩
 ·obtain⟨y,hy1,hy2⟩:=hbig;have h256:(256:Int)<=us[m]:=by have:=hlast y hy1;omega
  obtain⟨z,hz⟩:=Int.eq_ofNat_of_zero_le (show 0<=us[m] by omega);have wz:IntKind.i64.wrap (us[m]+1)=((z+1:Nat):Int):=by rw[hz];exact zr
  rw[wz];exact Xm hi H hl L4 (by omega) (by omega) (fun y hy=>⟨by have:=hr y hy;omega,by have:=hlast y hy;omega⟩) _ _ _ _ _ _ _ _ _ _
end
variable {ao:Option Addr}{co:Nat}{f:Bool}
section
theorem qw(U:Part k h (.slice au us.length cu) us)(hub:zh (.slice au us.length cu)≠some b)(f:∀y,h y≠none->y≠b->g y=h y):Part k g (.slice au us.length cu) us:=
 U.keep fun y hy=>f y (U.held y hy) fun e=>hub (e▸hy)
theorem xR(P:Part k h (.slice a1 l1 c1) ys)(hi:i<ys.length):l1=ys.length/\(!a1.isNone)=true/\zj h (((a1.getD default).add (i*1)).add 0)=some (.int k ys[i]):=by
 obtain⟨a',c',e,_,hxx⟩:=P.ints;simp only[Value.slice.injEq]at e;obtain⟨rfl,rfl,rfl⟩:=e;obtain⟨g1,g2⟩:=hxx.cell (List.getElem?_eq_getElem hi);exact⟨rfl,by simpa using g2,by simpa[add_add]using g1⟩
structure Op where
 i:Nat
 s:Int
 x:Int
 e:Int
def Op.V(o:Op):Value:=.slice (some ⟨o.i,0,none⟩) 3 3
def Op.ok(o:Op):Prop:=(0<=o.s/\o.s<=18)/\(0<=o.x/\o.x<=127)/\0<=o.e/\o.e<=7
structure OSt(h0 h h':qaA)(b:Nat)(T:TypeId)(code:List Int)(a:Option Addr)(c:Nat)(v:Value)(ops:List Op):Prop where
 P:An h' v (ops.map Op.V)
 N:∀y,zh v=some y->h y=none
 I:∀o∈ops,h o.i=none/\zh v≠some o.i/\∃ty,h' o.i=some (.cells (ints .i64 [o.s,o.x,o.e]) ty)
 C:zI h0 h' b T code a c
 F:∀y,h y≠none->y≠b->h' y=h y
theorem OSt.shape{ops:List Op}(L:OSt h0 h h' b T code a c v ops):∃a1 c1,v=.slice a1 ops.length c1:=by
 obtain⟨a1,c1,e,_,_⟩:=L.P.vals;rw[List.length_map]at e;exact⟨a1,c1,e⟩
theorem OSt.step(H0:zI h0 h b T code a c){v:Value}{ops:List Op}(L:OSt h0 h h' b T code a c v ops){h2:qaA}(C2:zI h0 h2 b T code a c)(f:∀y,h' y≠none->y≠b->h2 y=h' y):OSt h0 h h2 b T code a c v ops:=by
 have hb:∀y,h y=none->y≠b:=fun y hy e=>H0.held (e▸hy)
 refine⟨L.P.keep fun y hy=>f y (L.P.held y hy) (hb y (L.N y hy)),L.N,fun o ho=>?_,C2,fun y hy hne=>by rw[f y (by rw[L.F y hy hne];exact hy) hne,L.F y hy hne]⟩;obtain⟨i1,i2,ty,i3⟩:=L.I o ho;exact⟨i1,i2,ty,by rw[f o.i (by rw[i3];simp) (hb _ i1),i3]⟩
theorem OSt.was{ops:List Op}(L:OSt h0 h h' b T code a c v ops)(hb:h b≠none){y:Nat}(hy:h' y=none):h y=none:=by
 cases hh:h y with
 | none=>rfl
 | some o=>
  by_cases e:y=b
  ·subst e;exact absurd hy L.C.held
  ·rw[L.F y (by rw[hh];simp) e,hh]at hy;cases hy
theorem OSt.base{ops:List Op}(L:OSt h0 g h' b T code a c v ops)(hg:∀y,h y≠none->y≠b->g y=h y)(hb:g b≠none):OSt h0 h h' b T code a c v ops:=by
 have bk:∀y,g y=none->h y=none:=fun y h1=>by
  cases hh:h y with
  | none=>rfl
  | some o=>
   by_cases e:y=b
   ·subst e;exact absurd h1 hb
   ·rw[hg y (by rw[hh];simp) e,hh]at h1;cases h1
 exact⟨L.P,fun y hy=>bk y (L.N y hy),fun o ho=>by obtain⟨i1,i2⟩:=L.I o ho;exact⟨bk _ i1,i2⟩,L.C,fun y hy hne=>by rw[L.F y (by rw[hg y hy hne];exact hy) hne,hg y hy hne]⟩
structure ORd(h:qaA)(v:Value)(ops:List Op):Prop where
 P:An h v (ops.map Op.V)
 I:∀o∈ops,∃ty,h o.i=some (.cells (ints .i64 [o.s,o.x,o.e]) ty)
theorem OSt.rd{ops:List Op}(L:OSt h0 h h' b T code a c v ops):ORd h' v ops:=⟨L.P,fun o ho=>(L.I o ho).2.2⟩
theorem ORd.same{ops:List Op}(L:ORd h v ops)(f:∀y,zh v=some y->h' y=h y)(g:∀o∈ops,h' o.i=h o.i):ORd h' v ops:=⟨L.P.keep f,fun o ho=>by obtain⟨ty,e⟩:=L.I o ho;exact⟨ty,by rw[g o ho,e]⟩⟩
theorem ORd.get{ops:List Op}(L:ORd h (.slice a1 l1 c1) ops)(hi:i<ops.length):l1=ops.length/\(!a1.isNone)=true/\zj h (((a1.getD default).add (i*1)).add 0)=some ops[i].V /\
  zj h (⟨ops[i].i,0,none⟩:Addr)=some (.int .i64 ops[i].s)/\zj h (⟨ops[i].i,1,none⟩:Addr)=some (.int .i64 ops[i].x)/\zj h (⟨ops[i].i,2,none⟩:Addr)=some (.int .i64 ops[i].e):=by
 obtain⟨a',c',e,_,hv⟩:=L.P.vals;rw[List.length_map]at e;cases e
 obtain⟨g1,g2⟩:=hv.cell (i:=i) (v:=ops[i].V) (by rw[List.getElem?_map,List.getElem?_eq_getElem hi];rfl);obtain⟨ty,i3⟩:=L.I ops[i] (List.getElem_mem hi);refine⟨rfl,by simpa using g2,by simpa[add_add]using g1,?_,?_,?_⟩ <;> simp[zj,i3,ints]
theorem OSt.new(H0:zI h0 h b T code a c)(hb1:h b1=none){ty:TypeId}:OSt h0 h (upd h b1 (.cells #[] ty)) b T code a c (.slice (some ⟨b1,0,none⟩) 0 0) []:=
 ⟨An.made [],fun y hy=>(by cases hy;exact hb1),fun o ho=>(by cases ho),H0.mono (Sub.zC hb1),fun y hy _=>upd_ne fun e=>hy (e▸hb1)⟩
theorem OSt.app(hi:qaC S h0)(H0:zI h0 h b T code a c){ops:List Op}(L:OSt h0 h h' b T code a c (.slice a1 l1 c1) ops)(hl:ops.length<=1000000){s x e:Int}{b1 b2:Nat}(hb1:h' b1=none){ty1 ty2 ty:TypeId}(hb2:upd h' b1 (.cells (ints .i64 [s,x,e]) ty1) b2=none){K:Value->qaA->Prop}
  (hK:∀a2 c2 h2,OSt h0 h h2 b T code a c (.slice a2 (ops++[Op.mk b1 s x e]).length c2) (ops++[Op.mk b1 s x e])->K (.slice a2 (ops++[Op.mk b1 s x e]).length c2) h2) :
  appW S ty 1 24 [.slice none 0 0] (.slice a1 l1 c1) (.slice (some ⟨b2,0,none⟩) 1 1) (upd (upd h' b1 (.cells (ints .i64 [s,x,e]) ty1)) b2 (.cells #[.slice (some ⟨b1,0,none⟩) 3 3] ty2)) K:=by
 obtain⟨g,eg⟩:∃g,g=upd (upd h' b1 (.cells (ints .i64 [s,x,e]) ty1)) b2 (.cells #[.slice (some ⟨b1,0,none⟩) 3 3] ty2):=⟨_,rfl⟩;have s1:qaB h' (upd h' b1 (.cells (ints .i64 [s,x,e]) ty1)):=Sub.zC hb1;have s2:qaB (upd h' b1 (.cells (ints .i64 [s,x,e]) ty1)) g:=eg▸Sub.zC hb2;have sg:qaB h' g:=s1.trans s2;have hnb:zh (.slice a1 l1 c1)≠some b:=fun e=>H0.held (L.N b e)
 have g1:g b1=some (.cells (ints .i64 [s,x,e]) ty1):=s2 b1 _ upd_same;have g2:g b2=some (.cells #[.slice (some ⟨b1,0,none⟩) 3 3] ty2):=by rw[eg];exact upd_same
 have keepG:∀y,h' y≠none->g y=h' y:=fun y hy=>by
  cases hh:h' y with
  | none=>exact absurd hh hy
  | some o=>exact sg y o hh
 have hv1:zh (.slice a1 l1 c1)≠some b1:=fun e=>L.P.held b1 e hb1
 have P':An g (.slice a1 l1 c1) (ops.map Op.V):=L.P.keep fun y hy=>keepG y (L.P.held y hy)
 rw[<-eg];refine TH (u:=.slice (some ⟨b1,0,none⟩) 3 3) hi (L.C.sub.trans sg) P' (fun y hy=>ya H0.sub (L.N y hy)) (fun i v hv=>?_) Sd (by rw[List.length_map];omega) fun v' h4 o n4 s4 keep hblk=>?_
 ·cases i with
  | zero=>simp at hv;subst hv;exact⟨_,rfl,by simp[zj,g2,Addr.add]⟩
  | succ i=>simp at hv
 have el:ops.map Op.V++[(.slice (some ⟨b1,0,none⟩) 3 3:Value)]=(ops++[Op.mk b1 s x e]).map Op.V:=by simp[Op.V]
 rw[el]at o;obtain⟨a4,c4,e4,_,_⟩:=o.vals;rw[List.length_map]at e4;subst e4;have h1b:h b1=none:=L.was H0.held hb1;refine hK _ _ _ ⟨o,fun y hy=>?_,fun q hq=>?_,L.C.keep s4 (by rw[keep b (by rw[keepG b L.C.held];exact L.C.held) hnb,keepG b L.C.held]),fun y hy1 hy2=>?_⟩
 ·rcases hblk with e | e
  ·rw[e]at hy;exact L.N y hy
  ·exact L.was H0.held (ya sg (e y hy))
 ·have other:∀y,g y≠none->zh (.slice a1 l1 c1)≠some y->zh (.slice a4 (ops++[Op.mk b1 s x e]).length c4)≠some y:=fun y hy hn he=>by
   rcases hblk with e | e
   ·rw[e]at he;exact hn he
   ·exact hy (e y he)
  rcases List.mem_append.1 hq with hq | hq
  ·obtain⟨i1,i2,ty,i3⟩:=L.I q hq;have i4:g q.i=some (.cells (ints .i64 [q.s,q.x,q.e]) ty):=by rw[keepG _ (by rw[i3];simp),i3]
   exact⟨i1,other _ (by rw[i4];simp) i2,ty,by rw[keep _ (by rw[i4];simp) i2,i4]⟩
  ·rw[List.mem_singleton.1 hq];exact⟨h1b,other b1 (by rw[g1];simp) hv1,ty1,by rw[keep b1 (by rw[g1];simp) hv1,g1]⟩
 ·have h5:h' y=h y:=L.F y hy1 hy2;have h6:g y=h' y:=keepG y (by rw[h5];exact hy1);rw[keep y (by rw[h6,h5];exact hy1) (fun e=>hy1 (L.N y e)),h6,h5]
section
variable {ax:Option Addr}{cx:Nat}
def PkK(h0 h:qaA)(b:Nat)(T:TypeId)(code:List Int)(a:Option Addr)(c:Nat)(ops:List Op)(lim:Nat)(K:Kt):Prop:=
 ∀(a2:Option Addr) (c2:Nat) (h2:qaA) (ops2:List Op) (n2:Nat),OSt h0 h h2 b T code a c (.slice a2 ops2.length c2) ops2->ops2.length=ops.length+1->(∀o∈ops2,o.ok)->1<=n2->n2<=lim->K [.slice a2 ops2.length c2,.int .i64 n2] h2
theorem UX{ops:List Op}{o:Op}(h:∀o∈ops,o.ok)(g:o.ok):∀q∈ops++[o],q.ok:=fun q hq=>by
 rcases List.mem_append.1 hq with e | e
 ·exact h q e
 ·rw[List.mem_singleton.1 e];exact g
theorem M8(hi:qaC S h0)(H:zI h0 h b T code a c){ops:List Op}(L:OSt h0 h g b T code a c (.slice ao ops.length co) ops)(hol:ops.length<=1000)(ho:∀o∈ops,o.ok){n lim:Nat}{m k s e:Int}(h1:1<=n)(hn:n<=lim)(hl:lim<=1000)(hs:0<=s/\s<=18)(hk:1<=k/\k<=m/\m<=127+k/\m<=1000)(hkn:k<=n)(he:0<=e/\e<=7){ty ty1 ty2:TypeId}{K:Kt}{sh:List Sh}(hK:PkK h0 h b T code a c ops lim K) :
  ∀b1,g b1=none->∀b2,upd g b1 (.cells #[.int .i64 s,.int .i64 (IntKind.i64.wrap ((if(n:Int)>m then m else(n:Int))-k)),.int .i64 e] ty1) b2=none ->
   appW S ty 1 24 [.slice none 0 0] (.slice ao ops.length co) (.slice (some ⟨b2,0,none⟩) 1 1) (upd (upd g b1 (.cells #[.int .i64 s,.int .i64 (IntKind.i64.wrap ((if(n:Int)>m then m else(n:Int))-k)),.int .i64 e] ty1)) b2 (.cells #[.slice (some ⟨b1,0,none⟩) 3 3] ty2))
    fun v h'=>jv sh [.slice (slA v) (slL v) (slC v),.int .i64 (if(n:Int)>m then m else(n:Int))]->K [.slice (slA v) (slL v) (slC v),.int .i64 (if(n:Int)>m then m else(n:Int))] h':=by
 intro b1 hb1 b2 hb2;obtain⟨q,hq,q1,q2,q3⟩:∃q:Nat,(if(n:Int)>m then m else(n:Int))=q/\(q:Int)<=m/\k<=(q:Int)/\q<=n:=by
  by_cases h:(n:Int)>m
  ·obtain⟨z,rfl⟩:=Int.eq_ofNat_of_zero_le (show 0<=m by omega);exact⟨z,if_pos h,by omega,hk.2.1,by omega⟩
  ·exact⟨n,if_neg h,by omega,hkn,by omega⟩
 rw[hq]at hb2 ⊢;have w:IntKind.i64.wrap ((q:Int)-k)=q-k:=zr;rw[w]at hb2 ⊢;refine OSt.app (s:=s) (x:=q-k) (e:=e) hi H L (by omega) hb1 hb2 fun a2 c2 h2 L2=>?_
 simp only[zd,zc,ze];exact fun _=>hK _ _ _ _ q L2 (by simp) (UX ho ⟨hs,by simp only;omega,he⟩) (by omega) (by omega)
theorem SI(hi:qaC S h0)(H:zI h0 h b T code a c)(U:Part .i64 h (.slice ax xs.length cx) xs)(hub:zh (.slice ax xs.length cx)≠some b)(hx:∀y∈xs,0<=y/\y<=15)(hxl:xs.length<=1000){ops:List Op}(L:OSt h0 h g b T code a c (.slice ao ops.length co) ops)(hol:ops.length<=1000)(ho:∀o∈ops,o.ok)(h1:1<=n)(hin:i+n<=xs.length)(hf:f=true->3<=n)(K0 K1 K2 K3 K4 K5:Kt)(hK:PkK h0 h b T code a c ops n K5){Q:Value->qaA->Prop}(e2 e6 e7 e8 e9 e10 e11 e12 e13 e14 e15 e16 e17 e18 e19 e20 e21 e22:Value) :
  pkD.wp oPP S yb Q [.pointer (some ⟨b,0,none⟩),.slice ax xs.length cx,e2,.slice ao ops.length co,.int .i64 i,.int .i64 n,e6,e7,e8,e9,e10,e11,e12,e13,e14,e15,e16,e17,e18,e19,e20,e21,e22,.bool f] g [K0,K1,K2,K3,K4,K5]:=by
 simp only[pkD,Tr.wp,Ex.ev,coerce,toInt_int,za,zc,ze,zd,zf,zM,xL,z9,arith,Cst.val,zy,zq,vA,vB,vC,List.getElem?_cons_succ,decide_eq_true_eq,vD,vE,vI,vH,and_true];refine⟨fun hfl=>M8 hi H L hol ho h1 (Nat.le_refl n) (by omega) (by omega) (by omega) (by have:=hf hfl;omega) (by omega) hK,fun _=>?_⟩;have P:=qw U hub L.F;obtain⟨_,g2,g3⟩:=xR P (show i<xs.length by omega);refine⟨g2,by omega,by omega,xs[i],by rw[Int.toNat_natCast];exact g3,fun b1 hb1 b2 hb2=>?_⟩;have hxi:=hx xs[i] (List.getElem_mem _);refine OSt.app (s:=xs[i]) (x:=0) (e:=0) hi H L (by omega) hb1 hb2 fun a2 c2 h2 L2=>?_
 simp only[zd,zc,ze];exact fun _=>hK _ _ _ _ 1 L2 (by simp) (UX ho ⟨by simp only;omega,by simp only;omega,by simp only;omega⟩) (by omega) (by omega)
theorem Xn(hi:qaC S h0)(H:zI h0 h b T code a c)(hl:code.length<=1048576)(U:Part .i64 h (.slice ax xs.length cx) xs)(hub:zh (.slice ax xs.length cx)≠some b)(hx:∀y∈xs,0<=y/\y<=15)(hxl:xs.length<=1000){ops:List Op}(L:OSt h0 h g b T code a c (.slice ao ops.length co) ops)(hol:ops.length<=1000)(ho:∀o∈ops,o.ok)(h1:1<=n)(hin:i+n<=xs.length)(hf:f=true->3<=n)(K0 K1 K2 K3 K4:Kt)(hK:PkK h0 h b T code a c ops n K4){Q:Value->qaA->Prop}(e2 e6 e7 e8 e9 e10 e11 e12 e13 e14 e15 e16 e17:Value) :
  pkB.wp oPP S yb Q [.pointer (some ⟨b,0,none⟩),.slice ax xs.length cx,e2,.slice ao ops.length co,.int .i64 i,.int .i64 n,e6,e7,e8,e9,e10,e11,e12,e13,e14,e15,e16,e17,.bool f] g [K0,K1,K2,K3,K4]:=by
 simp only[pkB,Tr.wp,z4,Ex.ev,coerce,toInt_int,za,zc,ze,zd,zf,zx,zM,xg,xL,z9,arith,Cst.val,SV.den,zn,zL,zz,zk,zi,zy,zq,vF,vG,vA,vB,vC,List.getElem?_cons_succ,decide_eq_true_eq,decide_eq_false_iff_not,vD,vE,vI,vH,vJ,and_true,if_false,vK];have P:=qw U hub L.F;obtain⟨_,g2,g3⟩:=xR P (show i<xs.length by omega);refine⟨fun hfl=>M8 hi H L hol ho h1 (Nat.le_refl n) (by omega) (by omega) (by omega) (by have:=hf hfl;omega) (by omega) hK,fun _=>⟨fun hpos=>?_,fun _ _=>?_⟩⟩
 ·obtain⟨j,rfl⟩:∃j,i=j+1:=⟨i-1,by omega⟩;have wj:IntKind.i64.wrap (((j+1:Nat):Int)-1)=((j:Nat):Int):=zr;rw[wj];obtain⟨_,g4,g5⟩:=xR P (show j<xs.length by omega);refine⟨g2,by omega,by omega,xs[j],by rw[Int.toNat_natCast];exact g5,g2,by omega,by omega,xs[j+1],by rw[Int.toNat_natCast];exact g3,fun hc=>?_,fun _ _=>?_⟩
  ·have h3:3<=n:=by simp at hc;omega
   refine(zU hi L.C hl 5 (by omega) (by omega)).mono ?_;rintro _ h4 ⟨x,rfl,x0,x1,C4,f4⟩;refine⟨_,rfl,fun _=>?_⟩;refine SI hi H U hub hx hxl (L.step H C4 fun y _=>f4 y) hol ho h1 hin (fun _=>h3) _ _ _ _ _ _ ?_ _ _ _ _ _ _ _ _ _ _ _ _ _ _ _ _ _ _;exact fun a2 c2 h2 ops2 n2 L2 k1 k2 k3 k4 _=>hK a2 c2 h2 ops2 n2 L2 k1 k2 k3 k4
  ·refine SI hi H U hub hx hxl L hol ho h1 hin (fun e=>by cases e) _ _ _ _ _ _ ?_ _ _ _ _ _ _ _ _ _ _ _ _ _ _ _ _ _ _;exact fun a2 c2 h2 ops2 n2 L2 k1 k2 k3 k4 _=>hK a2 c2 h2 ops2 n2 L2 k1 k2 k3 k4
 ·refine SI hi H U hub hx hxl L hol ho h1 hin (fun e=>by cases e) _ _ _ _ _ _ ?_ _ _ _ _ _ _ _ _ _ _ _ _ _ _ _ _ _ _;exact fun a2 c2 h2 ops2 n2 L2 k1 k2 k3 k4 _=>hK a2 c2 h2 ops2 n2 L2 k1 k2 k3 k4
theorem Ol(hi:qaC S h0)(H:zI h0 h b T code a c)(hl:code.length<=1048576)(U:Part .i64 h (.slice ax xs.length cx) xs)(hub:zh (.slice ax xs.length cx)≠some b)(hx:∀y∈xs,0<=y/\y<=15)(hxl:xs.length<=1000){ops:List Op}(L:OSt h0 h g b T code a c (.slice ao ops.length co) ops)(hol:ops.length<=1000)(ho:∀o∈ops,o.ok)(h1:1<=n)(hin:i+n<=xs.length)(hf:f=true->11<=n)(K0 K1 K2 K3:Kt)
  (hK:∀(a2:Option Addr) (c2:Nat) (h2:qaA) (ops2:List Op) (n2:Nat),OSt h0 h h2 b T code a c (.slice a2 ops2.length c2) ops2->ops2.length=ops.length+1->(∀o∈ops2,o.ok)->1<=n2->n2<=n->K0 [.slice a2 ops2.length c2,.int .i64 ((i+n2:Nat):Int)] h2){Q:Value->qaA->Prop}(e2 e6 e7 e8 e9 e10 e11:Value) :
  pkA.wp oPP S yb Q [.pointer (some ⟨b,0,none⟩),.slice ax xs.length cx,e2,.slice ao ops.length co,.int .i64 i,.int .i64 n,e6,e7,e8,e9,e10,e11,.bool f] g [K0,K1,K2,K3]:=by
 simp only[pkA,Tr.wp,z4,Ex.ev,coerce,toInt_int,za,zc,ze,zd,zf,zx,zM,xg,xL,z9,arith,Cst.val,SV.den,zn,zL,zz,zk,zi,zy,zq,vF,vG,vA,vB,vC,List.getElem?_cons_succ,decide_eq_true_eq,vD,vE,vI,vH,vJ,and_true,if_false,vK];have P:=qw U hub L.F;obtain⟨_,g2,g3⟩:=xR P (show i<xs.length by omega);have hK4:∀ {K:Kt},(∀a2 c2 h2 ops2 n2,K0 [.slice a2 ops2 c2,.int .i64 (IntKind.i64.wrap ((i:Int)+(n2:Nat)))] h2->K [.slice a2 ops2 c2,.int .i64 (n2:Nat)] h2)->PkK h0 h b T code a c ops n K:=fun hh a2 c2 h2 ops2 n2 L2 k1 k2 k3 k4=>by
  have w:IntKind.i64.wrap ((i:Int)+(n2:Nat))=((i+n2:Nat):Int):=zr;exact hh _ _ _ _ _ (by rw[w];exact hK a2 c2 h2 ops2 n2 L2 k1 k2 k3 k4)
 refine⟨fun hfl=>?_,fun _=>⟨g2,by omega,by omega,xs[i],by rw[Int.toNat_natCast];exact g3,fun hc=>?_,fun _ _=>?_⟩⟩
 ·exact M8 (K:=fun us h'=>K0 [.slice (slA (us.getD 0 undef)) (slL (us.getD 0 undef)) (slC (us.getD 0 undef)),.int .i64 (IntKind.i64.wrap ((i:Int)+toInt (us.getD 1 undef)))] h') hi H L hol ho h1 (Nat.le_refl n) (by omega) (by omega) (by omega) (by have:=hf hfl;omega) (by omega) (hK4 fun _ _ _ _ _ h=>h)
 ·have h3:3<=n:=by simp at hc;omega
  refine(zU hi L.C hl 5 (by omega) (by omega)).mono ?_;rintro _ h4 ⟨x,rfl,x0,x1,C4,f4⟩;refine⟨_,rfl,fun _=>?_⟩;refine Xn hi H hl U hub hx hxl (L.step H C4 fun y _=>f4 y) hol ho h1 hin (fun _=>h3) _ _ _ _ _ ?_ _ _ _ _ _ _ _ _ _ _ _ _ _;exact hK4 fun _ _ _ _ _ h _=>h
 ·refine Xn hi H hl U hub hx hxl L hol ho h1 hin (fun e=>by cases e) _ _ _ _ _ ?_ _ _ _ _ _ _ _ _ _ _ _ _ _;exact hK4 fun _ _ _ _ _ h _=>h
theorem WN(hi:qaC S h0)(H:zI h0 h b T code a c)(hl:code.length<=1048576)(U:Part .i64 h (.slice ax xs.length cx) xs)(hub:zh (.slice ax xs.length cx)≠some b)(hx:∀y∈xs,0<=y/\y<=15)(hxl:xs.length<=1000) :
  zb oPP S Co #[.pointer (some ⟨b,0,none⟩),.slice ax xs.length cx] h (fun v h'=>∃a2 c2 ops,v=.slice a2 ops.length c2/\ops.length<=1000/\(∀o∈ops,o.ok)/\OSt h0 h h' b T code a c v ops):=by
 refine Kv (vs:=[.pointer (some ⟨b,0,none⟩),.slice ax xs.length cx]) ⟨rfl,rfl,trivial⟩ (hi.sub H.sub) ?_;rw[Gt];simp only[Tr.wp,z4,Ex.ev,coerce,toInt_int,za,zc,ze,zd,zf,zx,zM,xg,z9,arith,Cst.val,SV.den,zn,zL,zz,zk,zi,zy,zV,zq,vF,vG,vA,vB,vC,List.getElem?_cons_succ,decide_eq_true_eq,decide_eq_false_iff_not,vD,vE,vI,vH,vJ,and_true,if_false,vK];intro b0 hb0;refine⟨fun us h'=>∃(a1:Option Addr) (c1 i:Nat) (ops:List Op),us=[.slice a1 ops.length c1,.int .i64 i]/\i<=xs.length/\ops.length<=i/\(∀o∈ops,o.ok)/\OSt h0 h h' b T code a c (.slice a1 ops.length c1) ops,
  fun us _=>xs.length-(toInt (us.getD 1 undef)).toNat,⟨_,_,0,[],rfl,by omega,by simp,(fun o ho=>by cases ho),OSt.new H hb0⟩,?_⟩
 rintro a1 l1 c1 x g ⟨a1',c1',i,ops,hx1,hi2,hol,ho,L⟩;simp only[List.cons.injEq,Value.int.injEq,Value.slice.injEq,true_and,and_true]at hx1;obtain⟨⟨rfl,rfl,rfl⟩,rfl⟩:=hx1;refine⟨fun hlt=>?_,fun hge=>⟨_,_,ops,rfl,by omega,ho,L⟩⟩;have P:=qw U hub L.F;have hil:i<xs.length:=by omega
 obtain⟨_,g2,g3⟩:=xR P hil;refine⟨fun us h'=>∃n:Nat,us=[.int .i64 n]/\1<=n/\i+n<=xs.length/\h'=g,fun us _=>xs.length-(toInt (us.getD 0 undef)).toNat,⟨1,rfl,by omega,by omega,rfl⟩,?_⟩;rintro x h' ⟨n,hx2,h1,hin,rfl⟩;simp only[List.cons.injEq,Value.int.injEq,true_and,and_true]at hx2;subst hx2;have win:IntKind.i64.wrap ((i:Int)+(n:Int))=((i+n:Nat):Int):=zr;have w1:IntKind.i64.wrap ((n:Int)+1)=((n+1:Nat):Int):=zr;rw[win,w1];have done':∀ {us:List Value} {hh:qaA},(∃(a1:Option Addr) (c1 i':Nat) (ops':List Op),us=[.slice a1 ops'.length c1,.int .i64 i']/\i'<=xs.length/\ops'.length<=i'/\(∀o∈ops',o.ok)/\OSt h0 h hh b T code a c (.slice a1 ops'.length c1) ops'/\i<i') ->
   (∃(a1:Option Addr) (c1 i:Nat) (ops:List Op),us=[.slice a1 ops.length c1,.int .i64 i]/\i<=xs.length/\ops.length<=i/\(∀o∈ops,o.ok)/\OSt h0 h hh b T code a c (.slice a1 ops.length c1) ops)/\xs.length-(toInt (us.getD 1 undef)).toNat<xs.length-(toInt (Value.int .i64 (i:Int))).toNat:=by
  rintro us hh ⟨a3,c3,i3,ops3,rfl,q1,q2,q3,q4,q5⟩;refine⟨⟨a3,c3,i3,ops3,rfl,q1,q2,q3,q4⟩,?_⟩;simp only[vB,vA,toInt_int];omega
 refine⟨fun hc=>?_,fun hc=>?_⟩
 ·have hc':i+n<xs.length:=by omega
  obtain⟨_,g4,g5⟩:=xR P hc';refine⟨g2,by omega,by omega,xs[i+n],by rw[Int.toNat_natCast];exact g5,g2,by omega,by omega,xs[i],by rw[Int.toNat_natCast];exact g3,fun _=>⟨fun _=>⟨⟨n+1,rfl,by omega,by omega,rfl⟩,by simp only[vA,toInt_int];omega⟩,fun _=>?_⟩⟩;refine⟨g2,by omega,by omega,xs[i],by rw[Int.toNat_natCast];exact g3,fun hd=>?_,fun _ _=>?_⟩
  ·have h11:11<=n:=by simp at hd;omega
   refine(zU hi L.C hl 5 (by omega) (by omega)).mono ?_;rintro _ h4 ⟨x,rfl,x0,x1,C4,f4⟩;refine⟨_,rfl,fun _=>?_⟩;refine Ol hi H hl U hub hx hxl (L.step H C4 fun y _=>f4 y) (by omega) ho h1 hin (fun _=>h11) _ _ _ _ ?_ _ _ _ _ _ _ _;exact fun a2 c2 h2 ops2 n2 L2 k1 k2 k3 k4=>done' ⟨a2,c2,i+n2,ops2,rfl,by omega,by omega,k2,L2,by omega⟩
  ·refine Ol hi H hl U hub hx hxl L (by omega) ho h1 hin (fun e=>by cases e) _ _ _ _ ?_ _ _ _ _ _ _ _;exact fun a2 c2 h2 ops2 n2 L2 k1 k2 k3 k4=>done' ⟨a2,c2,i+n2,ops2,rfl,by omega,by omega,k2,L2,by omega⟩
 ·refine fun _=>⟨fun e=>e.elim,fun _=>?_⟩
  refine⟨g2,by omega,by omega,xs[i],by rw[Int.toNat_natCast];exact g3,fun hd=>?_,fun _ _=>?_⟩
  ·have h11:11<=n:=by simp at hd;omega
   refine(zU hi L.C hl 5 (by omega) (by omega)).mono ?_;rintro _ h4 ⟨x,rfl,x0,x1,C4,f4⟩;refine⟨_,rfl,fun _=>?_⟩;refine Ol hi H hl U hub hx hxl (L.step H C4 fun y _=>f4 y) (by omega) ho h1 hin (fun _=>h11) _ _ _ _ ?_ _ _ _ _ _ _ _;exact fun a2 c2 h2 ops2 n2 L2 k1 k2 k3 k4=>done' ⟨a2,c2,i+n2,ops2,rfl,by omega,by omega,k2,L2,by omega⟩
  ·refine Ol hi H hl U hub hx hxl L (by omega) ho h1 hin (fun e=>by cases e) _ _ _ _ ?_ _ _ _ _ _ _ _;exact fun a2 c2 h2 ops2 n2 L2 k1 k2 k3 k4=>done' ⟨a2,c2,i+n2,ops2,rfl,by omega,by omega,k2,L2,by omega⟩
end
end
variable {c2 cb cm l:Nat}{a2 ab am:Option Addr}{ms:List Int}
section
def Lp(h0 h:qaA)(b:Nat)(T:TypeId)(code:List Int)(a:Option Addr)(c:Nat)(m:Nat)(v:Value)(h':qaA):Prop:=
 ∃a2 c2 zs,v=.slice a2 zs.length c2/\zs.length<=m/\jE zs/\GSt .u8 h0 h h' b T code a c (.slice a2 zs.length c2) zs
theorem sub_eq(s:qaB g h1){y:Nat}(hy:g y≠none):h1 y=g y:=by
 cases hh:g y with
 | none=>exact absurd hh hy
 | some o=>exact s y o hh
theorem ORd.sub{ops:List Op}(L:ORd h v ops)(s:qaB h h'):ORd h' v ops:=
 L.same (fun y hy=>sub_eq s (L.P.held y hy)) fun o ho=>by obtain⟨ty,e⟩:=L.I o ho;exact sub_eq s (by rw[e];simp)
theorem ORd.held{ops:List Op}(L:ORd h v ops){o:Op}(ho:o∈ops):h o.i≠none:=by obtain⟨ty,e⟩:=L.I o ho;rw[e];simp
theorem Rest.ord{v v2 w:Value}{ops:List Op}(R:Rest g v h2 v2)(L:ORd g w ops)(hn:∀y,zh w=some y->zh v≠some y)(hm:∀o∈ops,zh v≠some o.i):ORd h2 w ops:=
 L.same (fun y hy=>(R y (L.P.held y hy) (hn y hy)).1) fun o ho=>(R o.i (L.held ho) (hm o ho)).1
theorem CodesAt.get{ac:Option Addr}(C:CodesAt h ac l cs)(hs:s<l):(!ac.isNone)=true/\∃n x:Nat,zj h (((ac.getD default).add (s*2)).add 0)=some (.int .i64 n)/\zj h (((ac.getD default).add (s*2)).add 1)=some (.int .u64 x)/\n<=15/\x<32768:=by
 obtain⟨⟨ps,hp,hl,_,hc⟩,_,_⟩:=C;have hs2:s<ps.length:=by omega
 obtain⟨n,x,e,_,n1,x1⟩:=hc s ps[s] (List.getElem?_eq_getElem hs2);obtain⟨g1,g2,g3⟩:=hp.cell (List.getElem?_eq_getElem hs2);rw[e]at g1 g2;have:2^n<=2^15:=Nat.pow_le_pow_right (by decide) n1;refine⟨by simpa using g3,n,x,?_,?_,n1,by omega⟩
 ·rw[add_add,Nat.add_zero];exact g1
 ·rw[add_add];exact g2
theorem zaC(hi:qaC S h0)(H:zI h0 h b T code a c)(B:GSt .u8 h0 h g b T code a c (.slice ab bs.length cb) bs)(o1:jE bs)(hbl:bs.length<=2000)
  {ops:List Op}(O:ORd g (.slice ao ops.length co) ops)(hol:ops.length<=1000)(ho:∀o∈ops,o.ok)(hO:∀y,zh (.slice ao ops.length co)=some y->zh (.slice ab bs.length cb)≠some y)(hI:∀o∈ops,zh (.slice ab bs.length cb)≠some o.i)
  (M:Part .i64 g (.slice am ms.length cm) ms)(hm:ms.length=19)(fm:wU ms)(K0 K1 K2 K3 K4 K5:Kt)(e1 e2 e3 e4 e5 e6 e7 e8 e10 e11 e12 e13 e15 e16 e17 e19:Value) :
  hdC.wp oPP S yb (Lp h0 h b T code a c 60000) [.pointer (some ⟨b,0,none⟩),e1,e2,e3,e4,e5,e6,e7,e8,.slice ao ops.length co,e10,e11,e12,e13,.slice am ms.length cm,e15,e16,e17,.slice ab bs.length cb,e19] g [K0,K1,K2,K3,K4,K5]:=by
 simp only[hdC,Tr.wp,z4,Ex.ev,coerce,toInt_int,za,zc,ze,zd,zf,zM,z9,arith,Cst.val,SV.den,zn,zL,zz,zk,zi,zy,zV,zq,vF,vG,vA,vB,vC,List.getElem?_cons_succ,decide_eq_true_eq,decide_eq_false_iff_not,vD,vE,vI,vH,vJ,and_true,if_false,vK];refine zb.mono (xY (hi.sub B.C.sub) (v:=.slice am ms.length cm) (xs:=ms) M (show ms.length<=1048576 by omega)) ?_;rintro v h1 ⟨Oc,Nc,sc⟩;have hc0:xp h1 v (y8 ms):=Oc;obtain⟨ac,cc,rfl,C⟩:=B8 hc0 (HH fm (by omega));refine⟨_,_,_,rfl,?_⟩;have B1:=B.sub H sc;refine⟨fun us h'=>∃(a1:Option Addr) (c1 i:Nat) (zs:List Int),us=[.slice a1 zs.length c1,.int .i64 i]/\i<=ops.length/\zs.length<=2000+40*i/\jE zs/\GSt .u8 h0 h h' b T code a c (.slice a1 zs.length c1) zs/\Rest h1 (.slice ab bs.length cb) h' (.slice a1 zs.length c1),
  fun us _=>ops.length-(toInt (us.getD 1 undef)).toNat,⟨_,_,0,bs,rfl,by omega,by omega,o1,B1,Rest.refl⟩,?_⟩
 rintro a1 l1 c1 x h' ⟨a1',c1',i,zs,hx1,hi2,hz,oz,L,R⟩;simp only[List.cons.injEq,Value.int.injEq,Value.slice.injEq,true_and,and_true]at hx1;obtain⟨⟨rfl,rfl,rfl⟩,rfl⟩:=hx1;refine⟨fun hlt=>?_,fun hge=>⟨_,_,zs,rfl,by omega,oz,L⟩⟩;have hil:i<ops.length:=by omega
 have O':=R.ord (O.sub sc) hO hI;have C':CodesAt h' ac ms.length (zl ms):=C.same (c:=cc) fun z hz=>(R z (hc0.held z hz) (fun e=>by have:=Nc z hz;have:=B.P.held z e;contradiction)).1
 obtain⟨_,n1,p1,p2,p3,p4⟩:=O'.get hil;obtain⟨⟨s0,s1⟩,⟨x0,x1⟩,q0,q1⟩:=ho ops[i] (List.getElem_mem hil);obtain⟨s,hs⟩:=Int.eq_ofNat_of_zero_le s0;rw[hs]at p2;obtain⟨n2,l,w,r1,r2,l15,w15⟩:=C'.get (s:=s) (by omega);have at0:∀(q n:Nat) (k:Int),k.toNat=n->((((some (⟨q,0,none⟩:Addr)).getD default).add (k.toNat*1)).add 0)=(⟨q,n,none⟩:Addr):=fun q n k e=>by rw[e];simp[zu]
 have w2:IntKind.i64.wrap ((i:Int)+1)=((i+1:Nat):Int):=zr;have wx:IntKind.u64.wrap ops[i].x=ops[i].x:=u64_in _ (by omega);refine⟨n1,by omega,hlt,_,_,_,by rw[Int.toNat_natCast];exact p1,rfl,rfl,by omega,s,by rw[at0 _ 0 _ rfl];exact p2,n2,by omega,by omega,w,by rw[Int.toNat_natCast,add_add,Nat.add_zero];exact r2,n2,by omega,by omega,l,by rw[Int.toNat_natCast,add_add,Nat.add_zero];exact r1,?_⟩;refine(wD hi H L (by omega) oz (x:=w) (n:=l) (by omega) (by omega)).mono ?_;rintro _ h2 ⟨a2,c2,zs2,rfl,hz2,oz2,L2,R2⟩;have R':=R.trans R2;obtain⟨_,_,u1,u2,u3,u4⟩:=(R'.ord (O.sub sc) hO hI).get hil;refine⟨_,_,_,rfl,n1,by omega,hlt,_,_,_,by rw[Int.toNat_natCast];exact u1,rfl,rfl,by omega,ops[i].x,by rw[at0 _ 1 _ rfl];exact u3,n1,by omega,hlt,_,_,_,by rw[Int.toNat_natCast];exact u1,rfl,rfl,by omega,ops[i].e,by rw[at0 _ 2 _ rfl];exact u4,?_⟩;rw[wx,w2];refine(wD hi H L2 (by omega) oz2 (x:=ops[i].x) (n:=ops[i].e) (by omega) (by omega)).mono ?_;rintro _ h3 ⟨a3,c3,zs3,rfl,hz3,oz3,L3,R3⟩;have R'':=R'.trans R3;obtain⟨_,_,v1,v2,v3,v4⟩:=(R''.ord (O.sub sc) hO hI).get hil;refine⟨_,_,_,rfl,?_⟩;refine⟨fun p hp=>?_,⟨_,_,i+1,zs3,rfl,by omega,by omega,oz3,L3,R''⟩,?_⟩
 ·simp only[List.mem_cons,List.not_mem_nil,or_false]at hp;rcases hp with rfl | rfl
  ·simp only[Ex.ev,coerce,toInt_int,zc,ze,zd,zf,Cst.val,vA,vB];simpa[zu]using v3
  ·rw[add_add,Nat.add_zero]at v1;simp only[Ex.ev,coerce,toInt_int,zc,ze,zd,zf,vA,vB];rw[Int.toNat_natCast];exact v1
 ·simp only[vB,vA,toInt_int];omega
theorem Xo(hi:qaC S h0)(H:zI h0 h b T code a c)(B:GSt .u8 h0 h g b T code a c (.slice ab bs.length cb) bs)(o1:jE bs)(hbl:bs.length<=100)
  {ops:List Op}(O:ORd g (.slice ao ops.length co) ops)(hol:ops.length<=1000)(ho:∀o∈ops,o.ok)(hO:∀y,zh (.slice ao ops.length co)=some y->zh (.slice ab bs.length cb)≠some y)(hI:∀o∈ops,zh (.slice ab bs.length cb)≠some o.i)
  (M:Part .i64 g (.slice am ms.length cm) ms)(hM:∀y,zh (.slice am ms.length cm)=some y->zh (.slice ab bs.length cb)≠some y)(hm:ms.length=19)(fm:wU ms)(hm7:∀y∈ms,y<=7)(hn:4<=n/\n<=19)(K0 K1 K2 K3:Kt)(e1 e2 e3 e4 e6 e7 e8 e10 e11 e12 e13 e16:Value) :
  hdP.wp oPP S yb (Lp h0 h b T code a c 60000) [.pointer (some ⟨b,0,none⟩),e1,e2,e3,e4,.slice ab bs.length cb,e6,e7,e8,.slice ao ops.length co,e10,e11,e12,e13,.slice am ms.length cm,.int .i64 n,e16] g [K0,K1,K2,K3]:=by
 simp only[hdP,Tr.wp,z4,Ex.ev,coerce,toInt_int,za,zc,ze,zd,zf,zM,z9,arith,Cst.val,SV.den,zn,zL,zz,zk,zi,zy,zV,zq,vF,vG,vA,vB,vC,List.getElem?_cons_succ,decide_eq_true_eq,decide_eq_false_iff_not,vD,vE,vI,vH,vJ,and_true,if_false,vK];have wn:IntKind.u64.wrap (IntKind.i64.wrap ((n:Int)-4))=((n-4:Nat):Int):=by rw[i64_in _ (by omega),u64_in _ (by omega)];omega
 rw[wn];refine(wD hi H B (by omega) o1 (x:=((n-4:Nat):Int)) (n:=4) (by omega) (by omega)).mono ?_;rintro _ h1 ⟨a1,c1,bs1,rfl,hz1,oz1,B1,R1⟩;refine⟨_,_,_,rfl,?_⟩;refine⟨fun us h'=>∃(a1:Option Addr) (c1 i:Nat) (zs:List Int),us=[.slice a1 zs.length c1,.int .i64 i]/\i<=n/\zs.length<=104+3*i/\jE zs/\GSt .u8 h0 h h' b T code a c (.slice a1 zs.length c1) zs/\Rest g (.slice ab bs.length cb) h' (.slice a1 zs.length c1),
  fun us _=>n-(toInt (us.getD 1 undef)).toNat,⟨_,_,0,bs1,rfl,by omega,by simp at hz1;omega,oz1,B1,R1⟩,?_⟩
 rintro a2 l2 c2 x h' ⟨a2',c2',i,zs,hx1,hi2,hz,oz,L,R⟩;simp only[List.cons.injEq,Value.int.injEq,Value.slice.injEq,true_and,and_true]at hx1;obtain⟨⟨rfl,rfl,rfl⟩,rfl⟩:=hx1;refine⟨fun hlt=>?_,fun hge=>?_⟩
 ·have hin:i<n:=by omega
  refine(Hq (hi.sub L.C.sub)).mono ?_;rintro _ h2 ⟨b1,T1,hb1,rfl,rfl⟩;have s2:qaB h' (upd h' b1 (.cells (ints .i64 (ord.map Int.ofNat)) T1)):=Sub.zC hb1;have PO:Part .i64 (upd h' b1 (.cells (ints .i64 (ord.map Int.ofNat)) T1)) (.slice (some ⟨b1,0,none⟩) 19 19) (ord.map Int.ofNat):=(Own.made (ord.map Int.ofNat)).part;obtain⟨_,g2,g3⟩:=xR PO (i:=i) (show i<19 by omega);obtain⟨q,hq⟩:∃q,q=(ord.map Int.ofNat)[i]'(show i<19 by omega):=⟨_,rfl⟩;have hq2:0<=q/\q<19:=(show ∀y∈ord.map Int.ofNat,0<=y/\y<19 by decide) q (by rw[hq];exact List.getElem_mem _);rw[<-hq]at g3;obtain⟨q,rfl⟩:=Int.eq_ofNat_of_zero_le hq2.1;have M2:=(R.part M hM).sub s2;obtain⟨_,g4,g5⟩:=xR M2 (i:=q) (by omega);have hv:=fm.1 ms[q] (List.getElem_mem _);have wv:IntKind.u64.wrap ms[q]=ms[q]:=u64_in _ (by omega);have w1:IntKind.i64.wrap ((i:Int)+1)=((i+1:Nat):Int):=zr;refine⟨_,_,_,rfl,g2,by omega,by omega,q,by rw[Int.toNat_natCast];exact g3,g4,by omega,by omega,ms[q],by rw[Int.toNat_natCast];exact g5,?_⟩;rw[wv,w1];refine(wD hi H (L.sub H s2) (by omega) oz (x:=ms[q]) (n:=3) (by omega) (by omega)).mono ?_;rintro _ h3 ⟨a3,c3,zs3,rfl,hz3,oz3,L3,R3⟩;have RS:Rest h' (.slice a2 zs.length c2) (upd h' b1 (.cells (ints .i64 (ord.map Int.ofNat)) T1)) (.slice a2 zs.length c2):=fun y hy hn=>⟨sub_eq s2 hy,hn⟩
  refine⟨_,_,_,rfl,⟨_,_,i+1,zs3,rfl,by omega,by simp at hz3;omega,oz3,L3,(R.trans RS).trans R3⟩,?_⟩;simp only[vB,vA,toInt_int];omega
 ·refine zaC hi H L oz (by omega) (R.ord O hO hI) hol ho (fun y hy=>(R y (O.P.held y hy) (hO y hy)).2) (fun o ho'=>(R o.i (O.held ho') (hI o ho')).2) (R.part M hM) hm fm _ _ _ _ _ _ _ _ _ _ _ _ _ _ _ _ _ _ _ _ _ _
theorem zaD(hi:qaC S h0)(H:zI h0 h b T code a c)(hl:code.length<=1048576)(B:GSt .u8 h0 h g b T code a c (.slice ab bs.length cb) bs)(o1:jE bs)(hbl:bs.length<=100)
  {ops:List Op}(O:OSt h0 h g b T code a c (.slice ao ops.length co) ops)(hol:ops.length<=1000)(ho:∀o∈ops,o.ok)(hO:∀y,zh (.slice ao ops.length co)=some y->zh (.slice ab bs.length cb)≠some y)(hI:∀o∈ops,zh (.slice ab bs.length cb)≠some o.i)
  (U:GSt .i64 h0 h g b T code a c (.slice au us.length cu) us)(hul:us.length<=400)(hur:∀y∈us,0<=y/\y<19)(K0 K1:Kt)(e1 e2 e3 e4 e6 e7 e8 e10 e11 e12:Value) :
  hdS.wp oPP S yb (Lp h0 h b T code a c 60000) [.pointer (some ⟨b,0,none⟩),e1,e2,e3,e4,.slice ab bs.length cb,e6,e7,e8,.slice ao ops.length co,e10,e11,e12,.slice au us.length cu] g [K0,K1]:=by
 simp only[hdS,Tr.wp,z4,Ex.ev,coerce,toInt_int,za,zc,ze,zd,zf,zx,zM,z9,arith,Cst.val,SV.den,zn,zL,zz,zk,zi,zy,zV,zq,vF,vG,vA,vB,vC,List.getElem?_cons_succ,decide_eq_true_eq,decide_eq_false_iff_not,vD,vE,vI,vH,vJ,and_true,if_false,vK];have K:=FU hi B.C hl 19 (by omega) U.P (U.ne H) hul hur 7 (by omega);refine zb.mono K ?_;rintro _ h1 ⟨am,cm,ms,rfl,⟨lm,fm,m7⟩,M1⟩;refine⟨_,_,_,rfl,?_⟩;have B1:=B.step H M1.C M1.F;have O1:=(O.step H M1.C M1.F).rd;have hM:∀y,zh (.slice am ms.length cm)=some y->zh (.slice ab bs.length cb)≠some y:=fun y hy e=>B.P.held y e (M1.N y hy)
 refine⟨fun us h'=>∃n:Nat,us=[.int .i64 n]/\4<=n/\n<=19/\qaB h1 h',fun us _=>(toInt (us.getD 0 undef)).toNat,⟨19,rfl,by omega,by omega,fun _ _ e=>e⟩,?_⟩;rintro x h' ⟨n,hx1,hn1,hn2,s⟩;simp only[List.cons.injEq,Value.int.injEq,true_and,and_true]at hx1;subst hx1;refine⟨fun hgt=>?_,fun hle=>?_⟩
 ·have hn4:4<n:=by omega
  refine(Hq (hi.sub (M1.C.sub.trans s))).mono ?_;rintro _ h2 ⟨b1,T1,hb1,rfl,rfl⟩;have s2:qaB h' (upd h' b1 (.cells (ints .i64 (ord.map Int.ofNat)) T1)):=Sub.zC hb1;have PO:Part .i64 (upd h' b1 (.cells (ints .i64 (ord.map Int.ofNat)) T1)) (.slice (some ⟨b1,0,none⟩) 19 19) (ord.map Int.ofNat):=(Own.made (ord.map Int.ofNat)).part;have hi19:n-1<(ord.map Int.ofNat).length:=show n-1<19 by omega
  obtain⟨_,g2,g3⟩:=xR PO hi19;obtain⟨q,hq⟩:∃q,q=(ord.map Int.ofNat)[n-1]:=⟨_,rfl⟩;have hq2:0<=q/\q<19:=(show ∀y∈ord.map Int.ofNat,0<=y/\y<19 by decide) q (by rw[hq];exact List.getElem_mem _);rw[<-hq]at g3;obtain⟨q,rfl⟩:=Int.eq_ofNat_of_zero_le hq2.1;have M2:=(M1.P.sub s).sub s2;obtain⟨_,g4,g5⟩:=xR M2 (i:=q) (by omega);have w1:IntKind.i64.wrap ((n:Int)-1)=((n-1:Nat):Int):=by rw[i64_in _ (by omega)];omega
  rw[w1];refine⟨_,_,_,rfl,g2,by omega,by omega,q,by rw[Int.toNat_natCast];exact g3,g4,by omega,by omega,ms[q],by rw[Int.toNat_natCast];exact g5,fun _=>⟨fun _=>⟨⟨n-1,rfl,by omega,by omega,s.trans s2⟩,by simp only[vA,toInt_int];omega⟩,fun _=>?_⟩⟩;have st:=s.trans s2;exact Xo hi H (B1.sub H st) o1 hbl (O1.sub st) hol ho hO hI (M1.P.sub st) hM lm fm m7 ⟨hn1,hn2⟩ _ _ _ _ _ _ _ _ _ _ _ _ _ _ _ _
 ·refine fun _=>⟨fun e=>e.elim,fun _=>?_⟩
  exact Xo hi H (B1.sub H s) o1 hbl (O1.sub s) hol ho hO hI (M1.P.sub s) hM lm fm m7 ⟨hn1,hn2⟩ _ _ _ _ _ _ _ _ _ _ _ _ _ _ _ _
theorem SJ(hi:qaC S h0)(H:zI h0 h b T code a c)(hl:code.length<=1048576)(X:Part .i64 h (.slice a1 xs.length c1) xs)(hxb:zh (.slice a1 xs.length c1)≠some b)(D:Part .i64 h (.slice a2 ds.length c2) ds)(hdb:zh (.slice a2 ds.length c2)≠some b)(hx:257<=xs.length/\xs.length<=288)(hd:1<=ds.length/\ds.length<=32)(fx:wU xs)(fd:wU ds) :
  zb oPP S AO #[.pointer (some ⟨b,0,none⟩),.slice a1 xs.length c1,.slice a2 ds.length c2] h (Lp h0 h b T code a c 60000):=by
 refine I3 (vs:=[.pointer (some ⟨b,0,none⟩),.slice a1 xs.length c1,.slice a2 ds.length c2]) ⟨rfl,rfl,rfl,trivial⟩ (hi.sub H.sub) ?_;rw[DY];simp only[Tr.wp,z4,Ex.ev,coerce,toInt_int,za,zc,ze,zd,zf,zx,zM,z9,arith,Cst.val,SV.den,zn,zL,zz,zk,zi,zy,zV,zq,vF,vG,vA,vB,vC,List.getElem?_cons_succ,decide_eq_true_eq,decide_eq_false_iff_not,vD,vE,vI,vH,vJ,and_true,if_false,vK];intro b0 hb0;have B0:GSt .u8 h0 h (upd h b0 (.cells #[] 5)) b T code a c (.slice (some ⟨b0,0,none⟩) 0 0) []:=GSt.new H hb0 [];have wx:IntKind.u64.wrap (IntKind.i64.wrap ((xs.length:Int)-257))=((xs.length-257:Nat):Int):=by rw[i64_in _ (by omega),u64_in _ (by omega)];omega
 have wd:IntKind.u64.wrap (IntKind.i64.wrap ((ds.length:Int)-1))=((ds.length-1:Nat):Int):=by rw[i64_in _ (by omega),u64_in _ (by omega)];omega
 rw[wx];refine(wD hi H (ys:=[]) B0 (by simp) (fun z hz=>by cases hz) (x:=((xs.length-257:Nat):Int)) (n:=5) (by omega) (by omega)).mono ?_;rintro _ g1 ⟨ab,cb,bs,rfl,hz1,oz1,B1,_⟩;refine⟨_,_,_,rfl,?_⟩;rw[wd];refine(wD hi H B1 (by simp at hz1;omega) oz1 (x:=((ds.length-1:Nat):Int)) (n:=5) (by omega) (by omega)).mono ?_;rintro _ g2 ⟨ab2,cb2,bs2,rfl,hz2,oz2,B2,_⟩;refine⟨_,_,_,rfl,fun b1 hb1=>?_⟩;have X2:=qw X hxb B2.F;have D2:=qw D hdb B2.F;have E3:GSt .i64 h0 g2 (upd g2 b1 (.cells #[] 2)) b T code a c (.slice (some ⟨b1,0,none⟩) 0 0) []:=GSt.new B2.C hb1 [];obtain⟨_,_,ex,_,hx2⟩:=X2.ints;cases ex
 refine GSt.apps hi B2.C E3 (fun _ _ e=>e) (hx2.sub (Sub.zC hb1)) (by omega) (by simp;omega) fun a4 c4 h4 E4 _=>?_
 simp only[zd,zc,ze];have E4:GSt .i64 h0 g2 h4 b T code a c (.slice a4 xs.length c4) xs:=E4;obtain⟨_,_,ed,_,hd4⟩:=(qw D2 hdb E4.F).ints;cases ed
 refine GSt.apps hi B2.C E4 (fun _ _ e=>e) hd4 (by omega) (by omega) fun a5 c5 h5 E5 _=>?_
 simp only[zd,zc,ze];have B5:=B2.step H E5.C E5.F;have hall:∀y∈xs++ds,0<=y/\y<=15:=fun y hy=>(List.mem_append.1 hy).elim (fx.1 y) (fd.1 y)
 refine(WN hi E5.C hl E5.P (E5.ne B2.C) hall (by rw[List.length_append];omega)).mono ?_;rintro _ h6 ⟨ao,co,ops,rfl,hol,ho,O6⟩;have hO:∀y,zh (.slice ao ops.length co)=some y->zh (.slice ab2 bs2.length cb2)≠some y:=fun y hy e=>B5.P.held y e (O6.N y hy)
 have hI:∀o∈ops,zh (.slice ab2 bs2.length cb2)≠some o.i:=fun o ho' e=>B5.P.held _ e (O6.I o ho').1
 have B6:=B5.step H O6.C O6.F;have O6':=O6.base B5.F B5.C.held;refine⟨_,_,_,rfl,fun b2 hb2=>?_⟩;refine⟨fun us h'=>∃(a1:Option Addr) (c1 s:Nat) (ys:List Int),us=[.slice a1 ys.length c1,.int .i64 s]/\s<=19/\ys.length<=s/\(∀y∈ys,0<=y/\y<(s:Int))/\GSt .i64 h0 h6 h' b T code a c (.slice a1 ys.length c1) ys,
  fun us _=>19-(toInt (us.getD 1 undef)).toNat,⟨_,_,0,[],rfl,by omega,by simp,by simp,GSt.new O6.C hb2 []⟩,?_⟩
 rintro au lu cu x h7 ⟨au',cu',s,us,hx1,hs,hu,hr,U⟩;simp only[List.cons.injEq,Value.int.injEq,Value.slice.injEq,true_and,and_true]at hx1;obtain⟨⟨rfl,rfl,rfl⟩,rfl⟩:=hx1;have fin:∀ {g:qaA} {av:Option Addr} {cv:Nat} {vs:List Int},GSt .i64 h0 h6 g b T code a c (.slice av vs.length cv) vs->vs.length<=400->(∀y∈vs,0<=y/\y<19)->∀(K0 K1:Kt) (e1 e2 e3 e4 e6 e7 e8 e10 e11 e12:Value),hdS.wp oPP S yb (Lp h0 h b T code a c 60000) [.pointer (some ⟨b,0,none⟩),e1,e2,e3,e4,.slice ab2 bs2.length cb2,e6,e7,e8,.slice ao ops.length co,e10,e11,e12,.slice av vs.length cv] g [K0,K1]:=fun V hv hvr K0 K1 e1 e2 e3 e4 e6 e7 e8 e10 e11 e12=>
  zaD hi H hl (B6.step H V.C V.F) oz2 (by simp at hz1 hz2;omega) (O6'.step H V.C V.F) hol ho hO hI (V.base B6.F B6.C.held) hv hvr K0 K1 e1 e2 e3 e4 e6 e7 e8 e10 e11 e12
 refine⟨fun hlt=>?_,fun hge=>?_⟩
 ·have w1:IntKind.i64.wrap ((s:Int)+1)=((s+1:Nat):Int):=zr;rw[w1];refine(xP hi U.C hl 12 (by omega) (by omega)).mono ?_;rintro _ h8 ⟨t,rfl,C8,f8⟩;have U8:=U.cur O6.C C8 f8;have R8:=(O6'.step H U8.C U8.F).rd;refine⟨_,rfl,?_⟩;refine⟨fun us h'=>∃(t:Bool) (j:Nat),us=[.bool t,.int .i64 j]/\j<=ops.length/\h'=h8,fun us _=>ops.length-(toInt (us.getD 1 undef)).toNat,⟨t,0,rfl,by omega,rfl⟩,?_⟩;rintro t' y h9 ⟨t2,j,hx2,hj,rfl⟩;simp only[List.cons.injEq,Value.int.injEq,Value.bool.injEq,true_and,and_true]at hx2;obtain⟨rfl,rfl⟩:=hx2;have w2:IntKind.i64.wrap ((j:Int)+1)=((j+1:Nat):Int):=zr;rw[w2];have meas:19-(toInt (Value.int .i64 ((s+1:Nat):Int))).toNat<19-(toInt (Value.int .i64 (s:Int))).toNat:=by rw[toInt_int,toInt_int];omega
  refine⟨fun hlt2=>?_,fun hge2=>⟨fun ht b3 hb3=>?_,fun ht _=>?_⟩⟩
  ·have hjl:j<ops.length:=by omega
   obtain⟨_,n1,p1,p2,_,_⟩:=R8.get hjl;have mj:ops.length-(toInt (Value.int .i64 ((j+1:Nat):Int))).toNat<ops.length-(toInt (Value.int .i64 (j:Int))).toNat:=by rw[toInt_int,toInt_int];omega
   refine⟨fun _=>⟨n1,by omega,hlt2,_,_,_,by rw[Int.toNat_natCast];exact p1,rfl,rfl,by omega,ops[j].s,by simpa[zu]using p2,fun _=>⟨⟨_,j+1,rfl,by omega,rfl⟩,mj⟩⟩,fun _ _=>⟨⟨_,j+1,rfl,by omega,rfl⟩,mj⟩⟩
  ·refine GSt.app hi O6.C U8 (by omega) (by omega) hb3 fun a9 c9 h9 U9 _=>?_
   simp only[zd,zc,ze];exact fun _=>⟨⟨_,_,s+1,_,rfl,by omega,by simp;omega,Is (p:=fun y=>0<=y/\y<((s+1:Nat):Int)) (fun y hy=>by have:=hr y hy;omega) (by omega),U9⟩,meas⟩
  ·exact⟨⟨_,_,s+1,us,rfl,by omega,by omega,fun y hy=>by have:=hr y hy;omega,U8⟩,meas⟩
 ·have hr19:∀y∈us,0<=y/\y<19:=fun y hy=>by have:=hr y hy;omega
  refine⟨fun h1=>?_,fun _ _=>fin U (by omega) hr19 _ _ _ _ _ _ _ _ _ _ _ _⟩;have h1:us.length=1:=by simp at h1;omega
  obtain⟨_,n1,p1⟩:=U.cell (show 0<us.length by omega);have hr0:=hr19 us[0] (List.getElem_mem _);have ld:∀ {g:qaA},(∀y,zh (.slice au us.length cu)=some y->g y=h7 y)->zj g ((au.getD default).add (Int.toNat 0*1))=some (.int .i64 us[0]):=fun f=>by
   have:=(xR (U.P.keep f) (show 0<us.length by omega)).2.2;simpa[add_add]using this
  have ld0:∀ {g:qaA},(∀y,zh (.slice au us.length cu)=some y->g y=h7 y)->zj g (((au.getD default).add (Int.toNat 0*1)).add 0)=some (.int .i64 us[0]):=fun f=>by rw[add_add,Nat.add_zero];exact ld f
  have same0:∀y,zh (.slice au us.length cu)=some y->h7 y=h7 y:=fun _ _=>rfl
  obtain⟨q,hq,q0,q1⟩:∃q,q=(IntKind.i64.wrap (us[0]+1)).tmod 19/\0<=q/\q<19:=⟨_,rfl,by rw[i64_in _ (by omega),Int.tmod_eq_emod_of_nonneg (by omega)];omega,by rw[i64_in _ (by omega),Int.tmod_eq_emod_of_nonneg (by omega)];omega⟩;have two:∀y∈([]:List Int)++[us[0],q],0<=y/\y<19:=fun y hy=>by
   simp only[vH,List.mem_cons,List.not_mem_nil,or_false]at hy;rcases hy with rfl | rfl <;> omega
  refine⟨n1,rfl,by omega,us[0],ld0 same0,n1,rfl,by omega,us[0],ld0 same0,?_⟩;rw[<-hq];refine⟨fun b3 hb3=>?_,fun b3 hb3=>?_⟩
  ·have s3:qaB h7 (upd h7 b3 (.cells #[] 2)):=Sub.zC hb3;have V3:GSt .i64 h0 h7 (upd h7 b3 (.cells #[] 2)) b T code a c (.slice (some ⟨b3,0,none⟩) 0 0) []:=GSt.new U.C hb3 [];have k3:∀y,zh (.slice au us.length cu)=some y->upd h7 b3 (.cells #[] 2) y=h7 y:=fun y hy=>sub_eq s3 (U.P.held y hy)
   refine⟨fun p hp=>?_,fun b4 hb4=>?_⟩
   ·simp only[List.mem_cons,List.not_mem_nil,or_false]at hp;rcases hp with rfl | rfl <;> (simp only[Ex.ev,coerce,toInt_int,zc,ze,zd,zf,Cst.val,vA,vB,vH];exact ld k3)
   have s4:qaB (upd h7 b3 (.cells #[] 2)) (upd (upd h7 b3 (.cells #[] 2)) b4 (.cells #[.int .i64 us[0],.int .i64 q] 2)):=Sub.zC hb4;have k4:∀y,zh (.slice au us.length cu)=some y->upd (upd h7 b3 (.cells #[] 2)) b4 (.cells #[.int .i64 us[0],.int .i64 q] 2) y=h7 y:=fun y hy=>sub_eq (s3.trans s4) (U.P.held y hy)
   refine⟨fun p hp=>?_,?_⟩
   ·simp only[List.mem_cons,List.not_mem_nil,or_false]at hp;rcases hp with rfl;simp only[Ex.ev,coerce,toInt_int,zc,ze,zd,zf,Cst.val,vA,vB,vH];exact ld k4
   refine GSt.apps hi U.C V3 (zs:=[us[0],q]) s4 (zo.new (xs:=[us[0],q])) (by omega) (by simp) fun a9 c9 h9 V9 kp9=>?_
   have k9:∀y,zh (.slice au us.length cu)=some y->h9 y=h7 y:=fun y hy=>by
    rw[kp9 y (by rw[k4 y hy];exact U.P.held y hy) (fun e=>by cases e;exact U.P.held _ hy hb3),k4 y hy]
   simp only[zd,zc,ze];refine⟨fun p hp=>?_,fun _=>?_⟩
   ·simp only[List.mem_cons,List.not_mem_nil,or_false]at hp;rcases hp with rfl;simp only[Ex.ev,coerce,toInt_int,zc,ze,zd,zf,Cst.val,vA,vB,vH,List.length_cons,List.length_nil,Nat.zero_add];exact ld k9
   ·exact fun _=>fin (V9.base U.F U.C.held) (by simp) two _ _ _ _ _ _ _ _ _ _ _ _
  ·have s3:qaB h7 (upd h7 b3 (.cells #[.int .i64 us[0],.int .i64 q] 2)):=Sub.zC hb3;have k3:∀y,zh (.slice au us.length cu)=some y->upd h7 b3 (.cells #[.int .i64 us[0],.int .i64 q] 2) y=h7 y:=fun y hy=>sub_eq s3 (U.P.held y hy)
   refine⟨fun p hp=>?_,fun b4 hb4=>?_⟩
   ·simp only[List.mem_cons,List.not_mem_nil,or_false]at hp;rcases hp with rfl;simp only[Ex.ev,coerce,toInt_int,zc,ze,zd,zf,Cst.val,vA,vB,vH];exact ld k3
   have C3:=U.C.mono s3;have s4:qaB (upd h7 b3 (.cells #[.int .i64 us[0],.int .i64 q] 2)) (upd (upd h7 b3 (.cells #[.int .i64 us[0],.int .i64 q] 2)) b4 (.cells #[] 2)):=Sub.zC hb4;have V4:GSt .i64 h0 (upd h7 b3 (.cells #[.int .i64 us[0],.int .i64 q] 2)) (upd (upd h7 b3 (.cells #[.int .i64 us[0],.int .i64 q] 2)) b4 (.cells #[] 2)) b T code a c (.slice (some ⟨b4,0,none⟩) 0 0) []:=GSt.new C3 hb4 [];have k4:∀y,zh (.slice au us.length cu)=some y->upd (upd h7 b3 (.cells #[.int .i64 us[0],.int .i64 q] 2)) b4 (.cells #[] 2) y=h7 y:=fun y hy=>sub_eq (s3.trans s4) (U.P.held y hy)
   refine⟨fun p hp=>?_,?_⟩
   ·simp only[List.mem_cons,List.not_mem_nil,or_false]at hp;rcases hp with rfl;simp only[Ex.ev,coerce,toInt_int,zc,ze,zd,zf,Cst.val,vA,vB,vH];exact ld k4
   refine GSt.apps hi C3 V4 (zs:=[us[0],q]) (fun _ _ e=>e) ((zo.new (xs:=[us[0],q])).sub s4) (by omega) (by simp) fun a9 c9 h9 V9 kp9=>?_
   have k9:∀y,zh (.slice au us.length cu)=some y->h9 y=h7 y:=fun y hy=>by
    rw[kp9 y (by rw[k4 y hy];exact U.P.held y hy) (fun e=>by cases e;have:=k3 _ hy;rw[hb4]at this;exact U.P.held _ hy this.symm),k4 y hy]
   simp only[zd,zc,ze];refine⟨fun p hp=>?_,fun _=>?_⟩
   ·simp only[List.mem_cons,List.not_mem_nil,or_false]at hp;rcases hp with rfl;simp only[Ex.ev,coerce,toInt_int,zc,ze,zd,zf,Cst.val,vA,vB,vH,List.length_cons,List.length_nil,Nat.zero_add];exact ld k9
   ·exact fun _=>fin (V9.base (fun y hy hne=>by rw[sub_eq s3 (by rw[U.F y hy hne];exact hy),U.F y hy hne]) C3.held) (by simp) two _ _ _ _ _ _ _ _ _ _ _ _
end
variable {d lo:Nat}
section
structure SySt(h0 h h':qaA)(b:Nat)(T:TypeId)(code:List Int)(a:Option Addr)(c:Nat)(aA:Option Addr)(lA cA:Nat)(csA:List (Nat×Nat))(aB:Option Addr)(lB cB:Nat)(csB:List (Nat×Nat))(ab:Option Addr)(cb:Nat)(bs:List Int):Prop where
 L:GSt .u8 h0 h h' b T code a c (.slice ab bs.length cb) bs
 o:jE bs
 A:CodesAt h' aA lA csA
 B:CodesAt h' aB lB csB
 nA:∀y,zh (.slice aA lA cA)=some y->h' y≠none/\y≠b/\zh (.slice ab bs.length cb)≠some y
 nB:∀y,zh (.slice aB lB cB)=some y->h' y≠none/\y≠b/\zh (.slice ab bs.length cb)≠some y
 hA:257<=lA/\lA<=288
 hB:1<=lB/\lB<=32
section
variable {aA aB : Option Addr}{lA cA lB cB : Nat}{csA csB:List (Nat × Nat)}
theorem SySt.cur(H:zI h0 h b T code a c)(Y:SySt h0 h h' b T code a c aA lA cA csA aB lB cB csB ab cb bs)(C2:zI h0 h2 b T code a c)(f:∀y,y≠b->h2 y=h' y):SySt h0 h h2 b T code a c aA lA cA csA aB lB cB csB ab cb bs:=
 ⟨Y.L.cur H C2 f,Y.o,Y.A.same (c:=cA) fun y hy=>f y (Y.nA y hy).2.1,Y.B.same (c:=cB) fun y hy=>f y (Y.nB y hy).2.1,fun y hy=>(by obtain⟨g1,g2,g3⟩:=Y.nA y hy;exact⟨by rw[f y g2];exact g1,g2,g3⟩),fun y hy=>(by obtain⟨g1,g2,g3⟩:=Y.nB y hy;exact⟨by rw[f y g2];exact g1,g2,g3⟩),Y.hA,Y.hB⟩
theorem BF(hi:qaC S h0)(H:zI h0 h b T code a c)(Y:SySt h0 h h' b T code a c aA lA cA csA aB lB cB csB ab cb bs)(hl:bs.length<=1000000){x n:Int}(hx:0<=x/\x<=100000)(hn:0<=n/\n<=16) :
  zb oPP S yi #[.slice ab bs.length cb,.int .u64 x,.int .i64 n] h' (fun v h2=>∃a2 c2 zs,v=.slice a2 zs.length c2/\zs.length=bs.length+n.toNat/\SySt h0 h h2 b T code a c aA lA cA csA aB lB cB csB a2 c2 zs):=by
 refine(wD hi H Y.L hl Y.o hx hn).mono ?_;rintro _ h2 ⟨a2,c2,zs,rfl,hz,oz,L2,R⟩;have rA:∀y,zh (.slice aA lA cA)=some y->h2 y=h' y/\zh (.slice a2 zs.length c2)≠some y:=fun y hy=>R y (Y.nA y hy).1 (Y.nA y hy).2.2
 have rB:∀y,zh (.slice aB lB cB)=some y->h2 y=h' y/\zh (.slice a2 zs.length c2)≠some y:=fun y hy=>R y (Y.nB y hy).1 (Y.nB y hy).2.2
 exact⟨_,_,zs,rfl,hz,L2,oz,Y.A.same (c:=cA) fun y hy=>(rA y hy).1,Y.B.same (c:=cB) fun y hy=>(rB y hy).1,fun y hy=>⟨by rw[(rA y hy).1];exact(Y.nA y hy).1,(Y.nA y hy).2.1,(rA y hy).2⟩,fun y hy=>⟨by rw[(rB y hy).1];exact(Y.nB y hy).1,(Y.nB y hy).2.1,(rB y hy).2⟩,Y.hA,Y.hB⟩
theorem zaE{p:Prop}[Decidable p]{y:Int}(h0:0<=y)(h1:y<=100000):0<=IntKind.u64.wrap (if p then 0 else y)/\IntKind.u64.wrap (if p then 0 else y)<=100000:=by
 split
 ·rw[u64_in _ (by omega)];omega
 ·rw[u64_in _ (by omega)];omega
def SyK(h0 h:qaA)(b:Nat)(T:TypeId)(code:List Int)(a:Option Addr)(c:Nat)(aA:Option Addr)(lA cA:Nat)(csA:List (Nat×Nat))(aB:Option Addr)(lB cB:Nat)(csB:List (Nat×Nat))(lo m:Nat)(i:Int)(K:Kt):Prop:=
 ∀(a2:Option Addr) (c2:Nat) (h2:qaA) (zs:List Int) (t:Int),SySt h0 h h2 b T code a c aA lA cA csA aB lB cB csB a2 c2 zs->lo<=zs.length->zs.length<=m->K [.slice a2 zs.length c2,.int .i64 t,.int .i64 i] h2
theorem Xp(hi:qaC S h0)(H:zI h0 h b T code a c)(hl:code.length<=1048576)(Y:SySt h0 h h' b T code a c aA lA cA csA aB lB cB csB ab cb bs)(hlo:lo<=bs.length)(hm:bs.length+60<=m)(hm2:m<=900000)(hs:257<=s/\s<=285)(hsl:s<lA)(hd:d<=29)(hdl:d<lB){t i:Int}(K0 K1 K2 K3 K4 K5 K6:Kt)(hK:SyK h0 h b T code a c aA lA cA csA aB lB cB csB lo m (IntKind.i64.wrap (i+1)) K0){Q:Value->qaA->Prop}(e1 e2 e3 e4 e7 e8 e11 e12 e14 e15 e16 e18 e19 e21 e22 e23:Value) :
  sq6.wp oPP S yb Q [.pointer (some ⟨b,0,none⟩),e1,e2,e3,e4,.slice aA lA cA,.slice aB lB cB,e7,e8,.int .i64 t,.int .i64 i,e11,e12,.int .i64 s,e14,e15,e16,.slice ab bs.length cb,e18,e19,.int .i64 d,e21,e22,e23,.int .i64 (yL s).1,.int .i64 (yL s).2,.int .i64 (yW d).1,.int .i64 (yW d).2,.bool f] h' [K0,K1,K2,K3,K4,K5,K6]:=by
 simp only[sq6,Tr.wp,z4,Ex.ev,coerce,toInt_int,za,zc,ze,zd,zf,zx,zM,xg,xL,z9,arith,Cst.val,SV.den,zn,zL,zz,zk,zi,zy,zq,vF,vG,vA,vB,vC,decide_eq_true_eq,vD,vE,vI,vH,vJ,and_true,if_false,vK];have hlen:=Mc ⟨s,by omega⟩ hs.1;have hdis:=Md ⟨d,by omega⟩;simp only at hlen hdis;refine⟨fun _=>hK _ _ _ bs _ Y (by omega) (by omega),fun _=>?_⟩;have p1:(2:Nat)^(yL s).2<=2^5:=Nat.pow_le_pow_right (by decide) hlen.2.2;have p2:(2:Nat)^(yW d).2<=2^13:=Nat.pow_le_pow_right (by decide) hdis.2.2;have p3:=Nat.pow_pos (n:=(yL s).2) (show 0<2 by decide);have p4:=Nat.pow_pos (n:=(yW d).2) (show 0<2 by decide);refine(jK (hi.sub Y.L.C.sub) ((yL s).2:Int) (by omega) (by omega)).mono ?_;rintro _ h1 ⟨rfl,rfl⟩;rw[Int.toNat_natCast];refine⟨_,rfl,?_⟩;refine(zU hi Y.L.C hl _ (by omega) (by omega)).mono ?_;rintro _ h2 ⟨x,rfl,x0,x1,C2,f2⟩;have Y2:=Y.cur H C2 f2;refine⟨_,rfl,?_⟩;refine(jK (hi.sub C2.sub) ((yW d).2:Int) (by omega) (by omega)).mono ?_;rintro _ h3 ⟨rfl,rfl⟩;rw[Int.toNat_natCast];refine⟨_,rfl,?_⟩;refine(zU hi C2 hl _ (by omega) (by omega)).mono ?_;rintro _ h4 ⟨y,rfl,y0,y1,C4,f4⟩;have Y4:=Y2.cur H C4 f4;obtain⟨na,l,w,g1,g2,l15,w15⟩:=Y4.A.get hsl;refine⟨_,rfl,na,by omega,by omega,w,by rw[Int.toNat_natCast,add_add,Nat.add_zero];exact g2,na,by omega,by omega,l,by rw[Int.toNat_natCast,add_add,Nat.add_zero];exact g1,?_⟩;refine(BF hi H Y4 (by omega) (x:=w) (n:=l) (by omega) (by omega)).mono ?_;rintro _ h5 ⟨a5,c5,z5,rfl,l5,Y5⟩;refine⟨_,_,_,rfl,?_⟩;have wx:IntKind.u64.wrap x=x:=u64_in _ (by omega);rw[wx];refine(BF hi H Y5 (by omega) (x:=x) (n:=((yL s).2:Int)) (by omega) (by omega)).mono ?_;rintro _ h6 ⟨a6,c6,z6,rfl,l6,Y6⟩;obtain⟨nb,l2,w2,g3,g4,l215,w215⟩:=Y6.B.get hdl;refine⟨_,_,_,rfl,nb,by omega,by omega,w2,by rw[Int.toNat_natCast,add_add,Nat.add_zero];exact g4,nb,by omega,by omega,l2,by rw[Int.toNat_natCast,add_add,Nat.add_zero];exact g3,?_⟩;refine(BF hi H Y6 (by omega) (x:=w2) (n:=l2) (by omega) (by omega)).mono ?_;rintro _ h7 ⟨a7,c7,z7,rfl,l7,Y7⟩;refine⟨_,_,_,rfl,?_⟩;refine(BF hi H Y7 (by omega) (n:=((yW d).2:Int)) (zaE y0 (by omega)) (by omega)).mono ?_;rintro _ h8 ⟨a8,c8,z8,rfl,l8,Y8⟩;refine⟨_,_,_,rfl,?_⟩;exact hK _ _ _ z8 _ Y8 (by omega) (by omega)
theorem zaF(hi:qaC S h0)(H:zI h0 h b T code a c)(hl:code.length<=1048576)(Y:SySt h0 h h' b T code a c aA lA cA csA aB lB cB csB ab cb bs)(hlo:lo<=bs.length)(hm:bs.length+60<=m)(hm2:m<=900000)(hs:257<=s/\s<=285)(hsl:s<lA)(hdl:d<lB){t i:Int}(K0 K1 K2 K3 K4 K5:Kt)(hK:SyK h0 h b T code a c aA lA cA csA aB lB cB csB lo m (IntKind.i64.wrap (i+1)) K0){Q:Value->qaA->Prop}(e1 e2 e3 e4 e7 e8 e11 e12 e14 e15 e16 e18 e19 e21 e22:Value) :
  sq5.wp oPP S yb Q [.pointer (some ⟨b,0,none⟩),e1,e2,e3,e4,.slice aA lA cA,.slice aB lB cB,e7,e8,.int .i64 t,.int .i64 i,e11,e12,.int .i64 s,e14,e15,e16,.slice ab bs.length cb,e18,e19,.int .i64 d,e21,e22] h' [K0,K1,K2,K3,K4,K5]:=by
 simp only[sq5,Tr.wp,z4,Ex.ev,coerce,toInt_int,za,zc,ze,zd,zf,zx,zM,jA,z9,arith,Cst.val,SV.den,zn,zL,zz,zk,zi,zy,zq,vF,vG,vA,vB,vC,List.getElem?_cons_succ,decide_eq_true_eq,decide_eq_false_iff_not,vD,vE,vI,vH,vJ,List.length_cons,List.length_nil,Nat.zero_add,and_true,if_true,if_false,vK];obtain⟨nb,l,w,g1,g2,l15,w15⟩:=Y.B.get hdl;refine⟨nb,by omega,by omega,l,by rw[Int.toNat_natCast,add_add,Nat.add_zero];exact g1,fun _=>hK _ _ _ bs _ Y (by omega) (by omega),fun hne=>?_⟩;have hd:d<=29:=by simp at hne;omega
 refine(KG (hi.sub Y.L.C.sub) s hs.1 hs.2).mono ?_;rintro _ h1 ⟨rfl,rfl⟩;refine⟨_,_,rfl,?_⟩;refine(Pj (hi.sub Y.L.C.sub) d hd).mono ?_;rintro _ h2 ⟨rfl,rfl⟩;refine⟨_,_,rfl,fun _=>?_,fun _ _=>?_⟩
 ·refine(zU hi Y.L.C hl 12 (by omega) (by omega)).mono ?_;rintro _ h3 ⟨x,rfl,x0,x1,C3,f3⟩;exact⟨_,rfl,fun _=>Xp hi H hl (Y.cur H C3 f3) (by omega) hm hm2 hs hsl hd hdl _ _ _ _ _ _ _ hK _ _ _ _ _ _ _ _ _ _ _ _ _ _ _ _⟩
 ·exact Xp hi H hl Y (by omega) hm hm2 hs hsl hd hdl _ _ _ _ _ _ _ hK _ _ _ _ _ _ _ _ _ _ _ _ _ _ _ _
theorem zaG(hi:qaC S h0)(H:zI h0 h b T code a c)(hl:code.length<=1048576)(Y:SySt h0 h h' b T code a c aA lA cA csA aB lB cB csB ab cb bs)(hlo:lo<=bs.length)(hm:bs.length+60<=m)(hm2:m<=900000)(hs:257<=s/\s<=285)(hsl:s<lA){t i:Int}(K0 K1 K2 K3:Kt)(hK:SyK h0 h b T code a c aA lA cA csA aB lB cB csB lo m (IntKind.i64.wrap (i+1)) K0){Q:Value->qaA->Prop}(e1 e2 e3 e4 e7 e8 e11 e12 e14 e15 e16 e18:Value) :
  sq4.wp oPP S yb Q [.pointer (some ⟨b,0,none⟩),e1,e2,e3,e4,.slice aA lA cA,.slice aB lB cB,e7,e8,.int .i64 t,.int .i64 i,e11,e12,.int .i64 s,e14,e15,e16,.slice ab bs.length cb,e18] h' [K0,K1,K2,K3]:=by
 simp only[sq4,Tr.wp,z4,Ex.ev,coerce,toInt_int,za,zc,ze,zd,zf,zx,zM,z9,arith,Cst.val,SV.den,zn,zL,zz,zk,zi,zy,zV,zq,vF,vG,vA,vB,vC,List.getElem?_cons_succ,decide_eq_true_eq,decide_eq_false_iff_not,vD,vE,vI,vH,vJ,and_true,if_false,vK];have hB:=Y.hB;refine(zU hi Y.L.C hl _ (by omega) (by omega)).mono ?_;rintro _ h1 ⟨x,rfl,x0,x1,C1,f1⟩;have Y1:=Y.cur H C1 f1;obtain⟨x,rfl⟩:=Int.eq_ofNat_of_zero_le x0;refine⟨_,rfl,?_⟩;refine⟨fun us h'=>∃d k:Nat,us=[.int .i64 d,.int .i64 k]/\d<lB/\k<=lB/\h'=h1,fun us _=>lB-(toInt (us.getD 1 undef)).toNat,⟨x,0,rfl,by omega,by omega,rfl⟩,?_⟩;rintro y z h2 ⟨d,k,hx1,hd,hk,rfl⟩;simp only[List.cons.injEq,Value.int.injEq,true_and,and_true]at hx1;obtain⟨rfl,rfl⟩:=hx1;have fin:∀(K4 K5:Kt) (e19 e21 e22:Value),sq5.wp oPP S yb Q [.pointer (some ⟨b,0,none⟩),e1,e2,e3,e4,.slice aA lA cA,.slice aB lB cB,e7,e8,.int .i64 t,.int .i64 i,e11,e12,.int .i64 s,e14,e15,e16,.slice ab bs.length cb,e18,e19,.int .i64 d,e21,e22] h2 [K0,K1,K2,K3,K4,K5]:=fun K4 K5 e19 e21 e22=>
  zaF hi H hl Y1 (by omega) hm hm2 hs hsl hd _ _ _ _ _ _ hK _ _ _ _ _ _ _ _ _ _ _ _ _ _ _
 obtain⟨nb,l,w,g1,g2,l15,w15⟩:=Y1.B.get hd;refine⟨fun hlt=>?_,fun hge _=>⟨fun e=>e.elim,fun _=>fin _ _ _ _ _⟩⟩;have w1:IntKind.i64.wrap ((d:Int)+1)=((d+1:Nat):Int):=zr;have w2:IntKind.i64.wrap ((k:Int)+1)=((k+1:Nat):Int):=zr;have w3:((d+1:Nat):Int).tmod ((lB:Nat):Int)=(((d+1)%lB:Nat):Int):=by rw[Int.tmod_eq_emod_of_nonneg (by omega)];exact(Int.natCast_emod _ _).symm
 have hz:(lB:Int)≠0:=by omega
 rw[w1,w2,w3];refine⟨nb,by omega,by omega,l,by rw[Int.toNat_natCast,add_add,Nat.add_zero];exact g1,fun _=>⟨fun _=>⟨by simpa using hz,⟨_,_,rfl,Nat.mod_lt _ (by omega),by omega,rfl⟩,by simp only[vB,vA,toInt_int];omega⟩,fun _=>fin _ _ _ _ _⟩⟩
theorem Xq(hi:qaC S h0)(H:zI h0 h b T code a c)(hl:code.length<=1048576)(Y:SySt h0 h h' b T code a c aA lA cA csA aB lB cB csB ab cb bs)(hlo:lo<=bs.length)(hm:bs.length+60<=m)(hm2:m<=900000)(hsl:s<lA){t i:Int}(K0 K1:Kt)(hK:SyK h0 h b T code a c aA lA cA csA aB lB cB csB lo m (IntKind.i64.wrap (i+1)) K0){Q:Value->qaA->Prop}(e1 e2 e3 e4 e7 e8 e11 e12 e14 e15 e16:Value) :
  sq3.wp oPP S yb Q [.pointer (some ⟨b,0,none⟩),e1,e2,e3,e4,.slice aA lA cA,.slice aB lB cB,e7,e8,.int .i64 t,.int .i64 i,e11,e12,.int .i64 s,e14,e15,e16,.slice ab bs.length cb] h' [K0,K1]:=by
 simp only[sq3,Tr.wp,z4,Ex.ev,coerce,toInt_int,za,zc,ze,zd,zf,zM,jA,z9,arith,Cst.val,SV.den,zn,zL,zz,zk,zi,zy,zq,vF,vG,vA,vB,vC,decide_eq_true_eq,decide_eq_false_iff_not,vD,vE,vI,vH,vJ,and_true,if_false,vK];have hA:=Y.hA;obtain⟨na,l,w,g1,g2,l15,w15⟩:=Y.A.get hsl;refine⟨na,by omega,by omega,l,by rw[Int.toNat_natCast,add_add,Nat.add_zero];exact g1,fun _=>hK _ _ _ bs _ Y (by omega) (by omega),fun hne=>⟨fun hlt=>?_,fun hge=>?_⟩⟩
 ·refine⟨na,by omega,by omega,w,by rw[Int.toNat_natCast,add_add,Nat.add_zero];exact g2,na,by omega,by omega,l,by rw[Int.toNat_natCast,add_add,Nat.add_zero];exact g1,?_⟩;refine(BF hi H Y (by omega) (x:=w) (n:=l) (by omega) (by omega)).mono ?_;rintro _ h5 ⟨a5,c5,z5,rfl,l5,Y5⟩;exact⟨_,_,_,rfl,hK _ _ _ z5 _ Y5 (by omega) (by omega)⟩
 ·exact zaG hi H hl Y (by omega) hm hm2 (by simp at hne;omega) hsl _ _ _ _ hK _ _ _ _ _ _ _ _ _ _ _ _
theorem SK(hi:qaC S h0)(H:zI h0 h b T code a c)(hl:code.length<=1048576)(Y:SySt h0 h h' b T code a c aA lA cA csA aB lB cB csB ab cb bs)(hlo:lo<=bs.length)(hm:bs.length+80<=m)(hm2:m<=900000)(hsl:s<lA){t i:Int}(K0 K1:Kt)(hK:SyK h0 h b T code a c aA lA cA csA aB lB cB csB lo m (IntKind.i64.wrap (i+1)) K0){Q:Value->qaA->Prop}(e1 e2 e3 e4 e7 e11 e12 e14 e15:Value) :
  sq2.wp oPP S yb Q [.pointer (some ⟨b,0,none⟩),e1,e2,e3,e4,.slice aA lA cA,.slice aB lB cB,e7,.slice ab bs.length cb,.int .i64 t,.int .i64 i,e11,e12,.int .i64 s,e14,e15,.bool f] h' [K0,K1]:=by
 simp only[sq2,Tr.wp,z4,Ex.ev,coerce,toInt_int,za,zc,ze,zd,zf,zM,z9,Cst.val,SV.den,zn,zL,zz,zk,zi,zy,zq,vF,vG,vA,vB,vC,List.getElem?_cons_succ,decide_eq_true_eq,vD,vE,vI,vH,vJ,and_true,if_false,vK];have hA:=Y.hA;obtain⟨na,l,w,g1,g2,l15,w15⟩:=Y.A.get hsl;refine⟨fun _=>⟨na,by omega,by omega,w,by rw[Int.toNat_natCast,add_add,Nat.add_zero];exact g2,na,by omega,by omega,l,by rw[Int.toNat_natCast,add_add,Nat.add_zero];exact g1,?_⟩,fun _ _=>Xq hi H hl Y (by omega) (by omega) hm2 hsl _ _ hK _ _ _ _ _ _ _ _ _ _ _⟩;refine(BF hi H Y (by omega) (x:=w) (n:=l) (by omega) (by omega)).mono ?_;rintro _ h5 ⟨a5,c5,z5,rfl,l5,Y5⟩;exact⟨_,_,_,rfl,fun _=>Xq hi H hl Y5 (by omega) (by omega) hm2 hsl _ _ hK _ _ _ _ _ _ _ _ _ _ _⟩
theorem Xr(hi:qaC S h0)(H:zI h0 h b T code a c)(hl:code.length<=1048576)(Y:SySt h0 h h' b T code a c aA lA cA csA aB lB cB csB ab cb bs)(hlo:lo<=bs.length)(hm:bs.length+80<=m)(hm2:m<=900000)(hsl:s<lA){t i:Int}(K0 K1:Kt)(hK:SyK h0 h b T code a c aA lA cA csA aB lB cB csB lo m (IntKind.i64.wrap (i+1)) K0){Q:Value->qaA->Prop}(e1 e2 e3 e4 e7 e11 e12:Value) :
  sq1.wp oPP S yb Q [.pointer (some ⟨b,0,none⟩),e1,e2,e3,e4,.slice aA lA cA,.slice aB lB cB,e7,.slice ab bs.length cb,.int .i64 t,.int .i64 i,e11,e12,.int .i64 s] h' [K0,K1]:=by
 simp only[sq1,Tr.wp,z4,Ex.ev,coerce,toInt_int,za,zc,ze,zd,zf,zx,zM,z9,Cst.val,SV.den,zn,zL,zz,zk,zi,zy,zq,vF,vG,vA,vB,vC,List.getElem?_cons_succ,decide_eq_true_eq,decide_eq_false_iff_not,vD,vE,vI,vH,vJ,and_true,if_false,vK];have hA:=Y.hA;obtain⟨na,l,w,g1,g2,l15,w15⟩:=Y.A.get hsl;refine⟨fun _=>⟨na,by omega,by omega,l,by rw[Int.toNat_natCast,add_add,Nat.add_zero];exact g1,fun _=>?_,fun _ _=>SK hi H hl Y (by omega) hm hm2 hsl _ _ hK _ _ _ _ _ _ _ _ _⟩,fun _ _=>SK hi H hl Y (by omega) hm hm2 hsl _ _ hK _ _ _ _ _ _ _ _ _⟩;refine(xP hi Y.L.C hl 3 (by omega) (by omega)).mono ?_;rintro _ h1 ⟨x,rfl,C1,f1⟩;exact⟨_,rfl,fun _=>SK hi H hl (Y.cur H C1 f1) (by omega) hm hm2 hsl _ _ hK _ _ _ _ _ _ _ _ _⟩
end
theorem Lq(hi:qaC S h0)(H:zI h0 h b T code a c)(hl:code.length<=1048576)(B:GSt .u8 h0 h g b T code a c (.slice ab bs.length cb) bs)(o1:jE bs)(hbl:bs.length<=400000)(X:Part .i64 g (.slice a1 xs.length c1) xs)(D:Part .i64 g (.slice a2 ds.length c2) ds)(hx:257<=xs.length/\xs.length<=288)(hd:1<=ds.length/\ds.length<=32)(fx:wU xs)(fd:wU ds)(t:Int) :
  zb oPP S qf #[.pointer (some ⟨b,0,none⟩),.slice ab bs.length cb,.slice a1 xs.length c1,.slice a2 ds.length c2,.int .i64 t] g (fun v h'=>∃a3 c3 zs t2,v=.tuple #[.slice a3 zs.length c3,.int .i64 t2]/\bs.length<=zs.length/\zs.length<=bs.length+2000/\jE zs/\GSt .u8 h0 h h' b T code a c (.slice a3 zs.length c3) zs):=by
 refine E7 (vs:=[.pointer (some ⟨b,0,none⟩),.slice ab bs.length cb,.slice a1 xs.length c1,.slice a2 ds.length c2,.int .i64 t]) ⟨rfl,rfl,rfl,rfl,rfl,trivial⟩ (hi.sub B.C.sub) ?_;rw[AY];simp only[Tr.wp,z4,Ex.ev,coerce,toInt_int,za,zc,ze,zd,zf,zx,zM,z9,arith,Cst.val,SV.den,zn,zL,zz,zk,zi,zy,zV,zq,vF,vG,vA,vB,vC,List.getElem?_cons_succ,decide_eq_true_eq,decide_eq_false_iff_not,vD,vE,vI,vH,vJ,and_true,if_false,vK];refine zb.mono (xY (hi.sub B.C.sub) (v:=.slice a1 xs.length c1) (xs:=xs) X (show xs.length<=1048576 by omega)) ?_;rintro v h1 ⟨OA,NA,sA⟩;have pA:xp h1 v (y8 xs):=OA;obtain⟨aA,cA,rfl,CA⟩:=B8 pA (HH fx (by omega));have B1:=B.sub H sA;refine⟨_,_,_,rfl,?_⟩;refine zb.mono (xY (hi.sub B1.C.sub) (v:=.slice a2 ds.length c2) (xs:=ds) (D.sub sA) (show ds.length<=1048576 by omega)) ?_;rintro v h2 ⟨OB,NB,sB⟩;have pB:xp h2 v (y8 ds):=OB;obtain⟨aB,cB,rfl,CB⟩:=B8 pB (HH fd (by omega));have B2:=B1.sub H sB;have Y2:SySt h0 h h2 b T code a c aA xs.length cA (zl xs) aB ds.length cB (zl ds) ab cb bs:=by
  refine⟨B2,o1,CA.sub sB,CB,fun y hy=>⟨?_,fun e=>?_,fun e=>?_⟩,fun y hy=>⟨?_,fun e=>?_,fun e=>?_⟩,hx,hd⟩
  ·rw[sub_eq sB (pA.held y hy)];exact pA.held y hy
  ·have:=NA y hy;rw[e]at this;exact B.C.held this
  ·exact B.P.held y e (NA y hy)
  ·exact pB.held y hy
  ·have:=NB y hy;rw[e]at this;exact B1.C.held this
  ·exact B1.P.held y e (NB y hy)
 refine⟨_,_,_,rfl,?_⟩;refine(zU hi B2.C hl 14 (by omega) (by omega)).mono ?_;rintro _ h3 ⟨n,rfl,n0,n1,C3,f3⟩;obtain⟨n,rfl⟩:=Int.eq_ofNat_of_zero_le n0;refine⟨_,rfl,?_⟩;refine⟨fun us h'=>∃(a3:Option Addr) (c3 i:Nat) (t2:Int) (zs:List Int),us=[.slice a3 zs.length c3,.int .i64 t2,.int .i64 i]/\i<=n/\bs.length<=zs.length/\zs.length<=bs.length+80*i/\SySt h0 h h' b T code a c aA xs.length cA (zl xs) aB ds.length cB (zl ds) a3 c3 zs,
  fun us _=>n-(toInt (us.getD 2 undef)).toNat,⟨_,_,0,t,bs,rfl,by omega,by omega,by omega,Y2.cur H C3 f3⟩,?_⟩
 rintro a3 l3 c3 x y h4 ⟨a3',c3',i,t2,zs,hx1,hin,hzl,hz,Y⟩;simp only[List.cons.injEq,Value.int.injEq,Value.slice.injEq,true_and,and_true]at hx1;obtain⟨⟨rfl,rfl,rfl⟩,rfl,rfl⟩:=hx1;refine⟨fun hlt=>?_,fun hge=>?_⟩
 ·have w1:IntKind.i64.wrap ((i:Int)+1)=((i+1:Nat):Int):=zr;refine(zU hi Y.L.C hl _ (by omega) (by omega)).mono ?_;rintro _ h5 ⟨s,rfl,s0,s1,C5,f5⟩;have Y5:=Y.cur H C5 f5;refine⟨_,rfl,?_⟩;refine(zU hi C5 hl 3 (by omega) (by omega)).mono ?_;rintro _ h6 ⟨q,rfl,q0,q1,C6,f6⟩;have Y6:=Y5.cur H C6 f6;refine⟨_,rfl,fun hq=>?_,fun hq _=>?_⟩
  ·refine(zU hi C6 hl 3 (by omega) (by omega)).mono ?_;rintro _ h7 ⟨r,rfl,r0,r1,C7,f7⟩;obtain⟨r,rfl⟩:=Int.eq_ofNat_of_zero_le r0;have wr:IntKind.i64.wrap (97+(r:Int))=((97+r:Nat):Int):=zr;refine⟨_,rfl,fun _=>?_⟩;rw[wr];refine Xr hi H hl (Y6.cur H C7 f7) (lo:=zs.length) (m:=zs.length+80) (Nat.le_refl _) (Nat.le_refl _) (by omega) (by omega) _ _ ?_ _ _ _ _ _ _ _;intro a8 c8 h8 ws t8 Y8 hlo hw;rw[w1];exact⟨⟨_,_,i+1,t8,ws,rfl,by omega,by omega,by omega,Y8⟩,by simp only[vB,vA,toInt_int];omega⟩
  ·obtain⟨s,rfl⟩:=Int.eq_ofNat_of_zero_le s0;refine Xr hi H hl Y6 (lo:=zs.length) (m:=zs.length+80) (Nat.le_refl _) (Nat.le_refl _) (by omega) (by omega) _ _ ?_ _ _ _ _ _ _ _;intro a8 c8 h8 ws t8 Y8 hlo hw;rw[w1];exact⟨⟨_,_,i+1,t8,ws,rfl,by omega,by omega,by omega,Y8⟩,by simp only[vB,vA,toInt_int];omega⟩
 ·obtain⟨na,l,w,g1,g2,l15,w15⟩:=Y.A.get (s:=256) (by omega);refine⟨na,rfl,by omega,w,by rw[add_add,Nat.add_zero];exact g2,na,rfl,by omega,l,by rw[add_add,Nat.add_zero];exact g1,?_⟩;refine(BF hi H Y (by omega) (x:=w) (n:=l) (by omega) (by omega)).mono ?_;rintro _ h5 ⟨a5,c5,z5,rfl,l5,Y5⟩;exact⟨_,_,_,rfl,_,_,z5,_,rfl,by omega,by omega,Y5.o,Y5.L⟩
end
section
theorem HI(hi:qaC S h)(H1:zo h .u8 a1 xs)(H2:zo h .u8 a2 xs) :
  zb oPP S kP #[.slice a1 xs.length c1,.slice a2 xs.length c2] h (fun v h'=>v=.bool true/\h'=h):=by
 refine Ji (vs:=[.slice a1 xs.length c1,.slice a2 xs.length c2]) ⟨rfl,rfl,trivial⟩ hi ?_;simp only[EZ,Tr.wp,Ex.ev,coerce,zc,ze,zd,SV.den,vA,vB,vI,vH,and_true];exact⟨xs,rfl,H1.cells (c:=c1),xs,rfl,H2.cells (c:=c2),by simp[RK,CV]⟩
end
section
theorem WO(hi:qaC S h0)(H:zI h0 h b T code a c)(hl:code.length<=1048576) :
  zb oPP S q9 #[.pointer (some ⟨b,0,none⟩)] h (SE h0 h b T code a c fun ys=>ys.length<=100):=by
 refine Kx (vs:=[.pointer (some ⟨b,0,none⟩)]) ⟨rfl,trivial⟩ (hi.sub H.sub) ?_;simp only[Gv,Tr.wp,z4,Ex.ev,coerce,za,zc,ze,zd,zx,Cst.val,SV.den,zn,zL,zz,zk,zi,zy,vF,vG,vA,vB,vD,vE,vI,vH,vJ,if_false,vK];refine(xP hi H hl 2 (by omega) (by omega)).mono ?_;rintro _ h1 ⟨t,rfl,C1,f1⟩;have back:∀y,h1 y=none->h y=none:=fun y hy=>by
  by_cases hyb:y=b
  ·subst hyb;exact absurd hy C1.held
  ·rw[f1 y hyb]at hy;exact hy
 refine⟨_,rfl,fun ht=>?_,fun ht=>?_⟩
 ·intro b0 hb0;have e0:(#[]:Array Value)=ints .u8 []:=rfl;rw[e0];have s0:qaB h1 (upd h1 b0 (.cells (ints .u8 []) 5)):=Sub.zC hb0;exact⟨[],by simp,(Own.made (k:=.u8) (h:=h1) (b:=b0) (T:=5) []).part,fun y hy=>back y (New.of hb0 y hy),C1.mono s0,fun y g1 g2=>by rw[upd_ne fun e=>g1 (by rw[<-f1 y g2,e];exact hb0),f1 y g2],fun y hy=>by cases hy⟩
 ·intro b0 hb0;have e0:(#[Value.int .u8 100]:Array Value)=ints .u8 [100]:=rfl;rw[e0];have s0:qaB h1 (upd h1 b0 (.cells (ints .u8 [100]) 5)):=Sub.zC hb0;have hb0b:b0≠b:=fun e=>C1.held (e▸hb0)
  refine(J0 hi (C1.mono s0) hl 16 (by omega) (by omega)).mono ?_;rintro _ h2 ⟨ys,hy,O,N,C2,f2,hbs⟩;obtain⟨a2,c2,rfl⟩:=So (tB.OR O);obtain⟨_,_,e2,hc2,g2⟩:=Part.ints O;cases e2
  refine⟨_,_,_,rfl,?_⟩;have P0:Part .u8 h2 (.slice (some ⟨b0,0,none⟩) 1 1) [100]:=((Own.made (k:=.u8) (h:=h1) (b:=b0) (T:=5) [100]).part).keep fun y hy=>by
   cases hy;exact f2 b0 (by rw[upd_same];simp) hb0b
  have hnb:∀o,zh (.slice (some ⟨b0,0,none⟩) 1 1)=some o->o=b0:=fun o ho=>by cases ho;rfl
  refine yA hi C2.sub P0 (fun y hy=>by rw[hnb y hy];exact ya H.sub (back b0 hb0)) g2 (by simp only[List.length_singleton];omega) fun v' h3 o3 n3 s3 keep hblk=>?_
  have cur:h3 b=h2 b:=keep b C2.held (fun e=>by cases e;exact hb0b rfl);obtain⟨a3,c3,rfl,_,_⟩:=o3.ints;refine⟨100::ys,by simp only[List.length_cons];omega,o3,?_,C2.keep s3 cur,fun y g1 g2=>?_,fun y hy=>?_⟩
  ·rcases hblk with e | e
   ·intro y hy;have hy:zh (.slice a3 ([100]++ys).length c3)=some y:=hy;rw[e]at hy;rw[hnb y hy];exact back b0 hb0
   ·intro y hy;have h6:=e y hy;cases hh:h y with
    | none=>rfl
    | some o=>
     by_cases hyb:y=b
     ·subst hyb;exact absurd h6 C2.held
     ·have h5:h1 y=some o:=by rw[f1 y hyb,hh]
      have hyb0:y≠b0:=fun e=>by rw[e,hb0]at h5;cases h5
      have:h2 y=some o:=by rw[f2 y (by rw[upd_ne hyb0,h5];simp) hyb,upd_ne hyb0,h5]
      rw[this]at h6;cases h6
  ·have h5:h1 y=h y:=f1 y g2;have hyb0:y≠b0:=fun e=>g1 (by rw[<-h5,e];exact hb0)
   have h6:h2 y=h y:=by rw[f2 y (by rw[upd_ne hyb0,h5];exact g1) g2,upd_ne hyb0,h5]
   rw[keep y (by rw[h6];exact g1) (fun e=>hyb0 (hnb y e)),h6]
  ·rcases List.mem_cons.1 hy with rfl | hy
   ·omega
   ·exact hbs y hy
end
section
theorem J2{P:List Int->Prop}(D:SE h0 h b T code a c P v h'):∃a1 c1 ys,v=.slice a1 ys.length c1/\P ys/\GSt .u8 h0 h h' b T code a c (.slice a1 ys.length c1) ys/\∀y∈ys,0<=y/\y<256:=by
 obtain⟨ys,p,O,N,C,F,hb⟩:=D;obtain⟨a1,c1,rfl⟩:=So (tB.OR O);exact⟨a1,c1,ys,rfl,p,⟨O,fun y hy=>N y hy,C,F⟩,hb⟩
theorem Qb(hi:qaC S h0)(H:zI h0 h b T code a c)(hl:code.length<=1048576)(n:Int)(h1:0<=n)(h2:n<=100000) :
  zb oPP S jx #[.pointer (some ⟨b,0,none⟩),.int .i64 n] h (qu .u8 h0 h b T code a c fun ys=>(ys.length:Int)=n):=by
 obtain⟨n,rfl⟩:=Int.eq_ofNat_of_zero_le h1;refine(PX hi H hl n (by omega)).mono ?_;rintro v h3 ⟨ys,hy,O,N,C,F,hb⟩;obtain⟨a1,c1,rfl⟩:=So (tB.OR O);exact⟨a1,c1,ys,rfl,by omega,⟨O,fun y hy=>N y hy,C,F⟩⟩
theorem zaH(h0:0<=x)(h1:x<2):IntKind.u8.wrap x=x:=u8_in _ (by omega)
theorem Qc(h:jE ys)(h0:0<=x/\x<=1):jE (ys++[x]):=J1 h fun z hz=>by rw[List.mem_singleton.1 hz];exact h0
theorem Xs(hi:qaC S h0)(H:zI h0 h b T code a c)(hl:code.length<=1048576)(B:GSt .u8 h0 h g b T code a c (.slice ab bs.length cb) bs)(o1:jE bs)(hbl:bs.length<=400000)(X:Part .i64 g (.slice a1 xs.length c1) xs)(D:Part .i64 g (.slice a2 ds.length c2) ds)(hx:257<=xs.length/\xs.length<=288)(hd:1<=ds.length/\ds.length<=32)(fx:wU xs)(fd:wU ds)(t:Int)(K0 K1 K2:Kt)
  (hK:∀(a3:Option Addr) (c3:Nat) (h2:qaA) (zs:List Int) (t2:Int),GSt .u8 h0 h h2 b T code a c (.slice a3 zs.length c3) zs->jE zs->bs.length<=zs.length->zs.length<=bs.length+2000->K2 [.int .i64 t2,.slice a3 zs.length c3] h2){Q:Value->qaA->Prop}(e1 e2 e3 e5 e6 e7 e8 e9 e10 e11 e12 e13:Value) :
  stX.wp oPP S yb Q [.pointer (some ⟨b,0,none⟩),e1,e2,e3,.int .i64 t,e5,e6,e7,e8,e9,e10,e11,e12,e13,.slice ab bs.length cb,.slice a1 xs.length c1,.slice a2 ds.length c2] g [K0,K1,K2]:=by
 simp only[stX,Tr.wp,z4,Ex.ev,coerce,toInt_int,zc,ze,zd,zx,SV.den,zn,zL,zz,zk,zi,zy,vF,vG,vA,vB,vC,List.getElem?_cons_succ,vD,vE,vI,vH,vJ,List.length_cons,List.length_nil,Nat.zero_add,if_true,if_false,vK];refine(Lq hi H hl B o1 hbl X D hx hd fx fd t).mono ?_;rintro _ h2 ⟨a3,c3,zs,t2,rfl,hz,hz2,oz,L⟩;exact⟨_,_,_,_,rfl,hK _ _ _ zs t2 L oz hz hz2⟩
theorem zbn{t:Bool}(hl:l<=100):0<=(if t=true then IntKind.u64.wrap (IntKind.u64.wrap (65535-IntKind.u64.wrap (l:Int))+1)else IntKind.u64.wrap (65535-IntKind.u64.wrap (l:Int)))/\(if t=true then IntKind.u64.wrap (IntKind.u64.wrap (65535-IntKind.u64.wrap (l:Int))+1)else IntKind.u64.wrap (65535-IntKind.u64.wrap (l:Int)))<=100000:=by
 rw[u64_in (l:Int) (by omega),u64_in (65535-(l:Int)) (by omega)];split
 ·rw[u64_in _ (by omega)];omega
 ·omega
theorem WQ:wU yV:=⟨by decide +kernel,by decide +kernel⟩
theorem WR:wU (List.replicate 32 5):=⟨by decide,by decide +kernel⟩
theorem Fu(hi:qaC S h0)(H:zI h0 h b T code a c)(hl:code.length<=1048576)(t0:Int) :
  zb oPP S jS #[.pointer (some ⟨b,0,none⟩),.int .i64 t0] h (qu .u8 h0 h b T code a c fun zs=>1<=zs.length/\zs.length<=210000/\jE zs):=by
 refine EY (vs:=[.pointer (some ⟨b,0,none⟩),.int .i64 t0]) ⟨rfl,rfl,trivial⟩ (hi.sub H.sub) ?_;rw[Bo];simp only[Tr.wp,z4,Ex.ev,coerce,toInt_int,za,zc,ze,zd,zf,zx,zM,xL,z9,arith,Cst.val,SV.den,zn,zL,zz,zk,zi,zy,zV,zq,vF,vG,vA,vB,vC,List.getElem?_cons_succ,decide_eq_true_eq,decide_eq_false_iff_not,vD,vE,vI,vH,vJ,List.length_cons,List.length_nil,Nat.zero_add,and_true,if_true,if_false,vK];intro b0 hb0;have B0:GSt .u8 h0 h (upd h b0 (.cells #[] 5)) b T code a c (.slice (some ⟨b0,0,none⟩) 0 0) []:=GSt.new H hb0 [];refine(zU hi B0.C hl 3 (by omega) (by omega)).mono ?_;rintro _ h1 ⟨n,rfl,n0,n1,C1,f1⟩;have B1:=B0.cur H C1 f1;obtain⟨n,rfl⟩:=Int.eq_ofNat_of_zero_le n0;refine⟨_,rfl,?_⟩;have wn:IntKind.i64.wrap (1+(n:Int))=((1+n:Nat):Int):=zr;rw[wn];refine⟨fun us h'=>∃(t:Int) (a1:Option Addr) (c1 i:Nat) (zs:List Int),us=[.int .i64 t,.slice a1 zs.length c1,.int .i64 i]/\i<=1+n/\i<=zs.length/\zs.length<=70000*i/\jE zs/\GSt .u8 h0 h h' b T code a c (.slice a1 zs.length c1) zs,
  fun us _=>10-(toInt (us.getD 2 undef)).toNat,⟨t0,_,_,0,[],rfl,by omega,by simp,by simp,(fun z hz=>by cases hz),B1⟩,?_⟩
 rintro x a1 l1 c1 y h2 ⟨t,a1',c1',i,zs,hx1,hin,hz0,hz,oz,L⟩;simp only[List.cons.injEq,Value.int.injEq,Value.slice.injEq,true_and,and_true]at hx1;obtain⟨rfl,⟨rfl,rfl,rfl⟩,rfl⟩:=hx1;refine⟨fun hlt=>?_,fun hge=>⟨_,_,zs,rfl,⟨by omega,by omega,oz⟩,L⟩⟩;have hi3:i<3:=by omega
 have w1:IntKind.i64.wrap ((i:Int)+1)=((i+1:Nat):Int):=zr;have nxt:∀ {t2:Int} {a2:Option Addr} {c2:Nat} {h3:qaA} {ws:List Int},GSt .u8 h0 h h3 b T code a c (.slice a2 ws.length c2) ws->jE ws->i+1<=ws.length->ws.length<=70000*(i+1) ->
   (∃(t:Int) (a1:Option Addr) (c1 j:Nat) (zs:List Int),[Value.int .i64 t2,.slice a2 ws.length c2,.int .i64 (IntKind.i64.wrap ((i:Int)+1))]=[.int .i64 t,.slice a1 zs.length c1,.int .i64 j]/\j<=1+n/\j<=zs.length/\zs.length<=70000*j/\jE zs/\GSt .u8 h0 h h3 b T code a c (.slice a1 zs.length c1) zs)/\10-(toInt (Value.int .i64 (IntKind.i64.wrap ((i:Int)+1)))).toNat<10-(toInt (Value.int .i64 (i:Int))).toNat:=by
  intro t2 a2 c2 h3 ws W ow hw1 hw2;rw[w1];exact⟨⟨t2,a2,c2,i+1,ws,rfl,by omega,hw1,hw2,ow,W⟩,by simp only[toInt_int];omega⟩
 refine(zU hi L.C hl 3 (by omega) (by omega)).mono ?_;rintro _ h3 ⟨kd,rfl,kd0,kd1,C3,f3⟩;have L3:=L.cur H C3 f3;refine⟨_,rfl,?_⟩;refine(xP hi C3 hl 40 (by omega) (by omega)).mono ?_;rintro _ h4 ⟨tt,rfl,C4,f4⟩;have L4:=L3.cur H C4 f4;refine⟨_,rfl,fun b1 hb1=>?_⟩;generalize hlb:(if((i:Int)==IntKind.i64.wrap (((1+n:Nat):Int)-1))=true then(1:Int)else 0)=lb;have lb01:0<=lb/\lb<=1:=by rw[<-hlb];split <;> omega
 refine GSt.app hi H L4 (by omega) (by omega) hb1 fun a5 c5 h5 L5 _=>?_
 simp only[zd,zc,ze];generalize hk2:(if tt=true then(3:Int)else kd)=k2;have k2b:0<=k2/\k2<=3:=by rw[<-hk2];split <;> omega
 have wk:IntKind.u64.wrap k2=k2:=u64_in _ (by omega);rw[wk];have l5:(zs++[lb]).length=zs.length+1:=by simp
 refine(wD hi H L5 (by omega) (Qc oz lb01) (x:=k2) (n:=2) (by omega) (by omega)).mono ?_;rintro _ h6 ⟨a6,c6,ws,rfl,hw,ow,L6,_⟩;have hw:ws.length=zs.length+3:=by simp at hw;omega
 refine⟨_,_,_,rfl,fun hk0=>?_,fun hk0=>?_⟩
 ·refine⟨fun us h'=>∃(a1:Option Addr) (c1:Nat) (vs:List Int),us=[.slice a1 vs.length c1]/\ws.length<=vs.length/\vs.length+(8-vs.length%8)%8<=ws.length+8/\jE vs/\GSt .u8 h0 h h' b T code a c (.slice a1 vs.length c1) vs,
   fun us _=>(8-slL (us.getD 0 undef)%8)%8,⟨_,_,ws,rfl,by omega,by omega,ow,L6⟩,?_⟩
  rintro a7 l7 c7 h7 ⟨a7',c7',vs,hx2,hv1,hv2,ov,L7⟩;simp only[List.cons.injEq,Value.slice.injEq,and_true]at hx2;obtain⟨rfl,rfl,rfl⟩:=hx2;have tm:((vs.length:Nat):Int).tmod 8=((vs.length%8:Nat):Int):=by rw[Int.tmod_eq_emod_of_nonneg (by omega)];omega
  rw[tm];refine⟨fun hpos=>?_,fun hzero=>?_⟩
  ·refine(zU hi L7.C hl 2 (by omega) (by omega)).mono ?_;rintro _ h8 ⟨q,rfl,q0,q1,C8,f8⟩;have L8:=L7.cur H C8 f8;refine⟨_,rfl,fun b2 hb2=>?_⟩;rw[zaH q0 q1];refine GSt.app hi H L8 (by omega) (by omega) hb2 fun a9 c9 h9 L9 _=>?_
   simp only[zd,zc,ze];have l9:(vs++[q]).length=vs.length+1:=by simp
   refine⟨⟨_,_,_,rfl,by omega,by rw[l9];omega,Qc ov (by omega),L9⟩,?_⟩;simp only[vA,zc,l9];omega
  ·refine(J0 hi L7.C hl 12 (by omega) (by omega)).mono fun v h8 D8=>?_
   obtain⟨ad,cd,ds,rfl,hds,D,hdb⟩:=J2 D8;have L8:=L7.step H D.C D.F;have hD:∀y,zh (.slice ad ds.length cd)=some y->zh (.slice a7 vs.length c7)≠some y:=fun y hy e=>L7.P.held y e (D.N y hy)
   have hdl:ds.length<=11:=by omega
   refine⟨_,_,_,rfl,?_⟩;refine(xP hi D.C hl 15 (by omega) (by omega)).mono ?_;rintro _ h9 ⟨tu,rfl,C9,f9⟩;have L9:=L8.cur H C9 f9;have D9:=D.cur L7.C C9 f9;have wl:IntKind.u64.wrap (ds.length:Int)=(ds.length:Int):=u64_in _ (by omega);refine⟨_,rfl,?_⟩;refine(wD hi H L9 (by omega) ov (x:=IntKind.u64.wrap (ds.length:Int)) (n:=16) (by rw[wl];omega) (by omega)).mono ?_;rintro _ h10 ⟨a10,c10,v10,rfl,hv10,o10,L10,R10⟩;have hv10:v10.length=vs.length+16:=by simp at hv10;omega
   refine⟨_,_,_,rfl,?_⟩;refine(wD hi H L10 (by omega) o10 (n:=16) (zbn (by omega)) (by omega)).mono ?_;rintro _ h11 ⟨a11,c11,v11,rfl,hv11,o11,L11,R11⟩;have hv11:v11.length=v10.length+16:=by simp at hv11;omega
   have R0:=R10.trans R11;refine⟨_,_,_,rfl,?_⟩;refine⟨fun us h'=>∃(a1:Option Addr) (c1 j:Nat) (xs:List Int),us=[.slice a1 xs.length c1,.int .i64 j]/\j<=ds.length/\v11.length<=xs.length/\xs.length<=v11.length+8*j/\jE xs/\GSt .u8 h0 h h' b T code a c (.slice a1 xs.length c1) xs/\Rest h9 (.slice a7 vs.length c7) h' (.slice a1 xs.length c1),
    fun us _=>ds.length-(toInt (us.getD 1 undef)).toNat,⟨_,_,0,v11,rfl,by omega,by omega,by omega,o11,L11,R0⟩,?_⟩
   rintro a12 l12 c12 z h12 ⟨a12',c12',j,xs,hx3,hj,hx0,hx,ox,L12,R12⟩;simp only[List.cons.injEq,Value.int.injEq,Value.slice.injEq,true_and,and_true]at hx3;obtain⟨⟨rfl,rfl,rfl⟩,rfl⟩:=hx3;refine⟨fun hlt2=>?_,fun hge2 _=>?_⟩
   ·have hjl:j<ds.length:=by omega
    obtain⟨_,g1,g2⟩:=xR (R12.part D9.P hD) hjl;have hbj:=hdb ds[j] (List.getElem_mem _);have wj:IntKind.u64.wrap ds[j]=ds[j]:=u64_in _ (by omega);have w2:IntKind.i64.wrap ((j:Int)+1)=((j+1:Nat):Int):=zr;refine⟨g1,by omega,by omega,ds[j],by rw[Int.toNat_natCast];exact g2,?_⟩;rw[wj,w2];refine(wD hi H L12 (by omega) ox (x:=ds[j]) (n:=8) (by omega) (by omega)).mono ?_;rintro _ h13 ⟨a13,c13,v13,rfl,hv13,o13,L13,R13⟩;have hv13:v13.length=xs.length+8:=by simp at hv13;omega
    refine⟨_,_,_,rfl,⟨_,_,j+1,v13,rfl,by omega,by omega,by omega,o13,L13,R12.trans R13⟩,?_⟩;simp only[vB,vA,toInt_int];omega
   ·exact nxt L12 ox (by omega) (by omega)
 ·refine(Nb (hi.sub L6.C.sub)).mono ?_;rintro _ h7 ⟨af,cf,ag,cg,rfl,PF,PG,NF,NG,sF⟩;have L7:=L6.sub H sF;have PF:Part .i64 h7 (.slice af yV.length cf) yV:=by rw[qn];exact PF
  have PG:Part .i64 h7 (.slice ag (List.replicate 32 (5:Int)).length cg) (List.replicate 32 5):=PG;refine⟨_,_,_,_,_,_,rfl,fun hk=>?_,fun hk _=>?_⟩
  ·refine(Qa hi L7.C hl).mono ?_;rintro _ h8 ⟨ax,cx,xs,ay,cy,ys,rfl,X,Y,hx,fx,hy,fy⟩;have L8:=L7.step H X.C X.F;refine⟨_,_,_,_,_,_,rfl,?_⟩;refine(SJ hi X.C hl X.P (X.ne L7.C) Y.P (Y.ne L7.C) hx hy fx fy).mono ?_;rintro _ h9 ⟨az,cz,hs,rfl,hhs,ohs,Z⟩;have L9:=L8.step H Z.C Z.F;have X9:=X.step L7.C Z.C Z.F;have Y9:=Y.step L7.C Z.C Z.F;obtain⟨_,_,ez,_,hz9⟩:=Z.P.ints;cases ez
   refine⟨_,_,_,rfl,?_⟩;refine GSt.apps hi H L9 (fun _ _ e=>e) hz9 (by omega) (by omega) fun a10 c10 h10 L10 kp=>?_
   simp only[zd,zc,ze];have l10:(ws++hs).length=ws.length+hs.length:=List.length_append;have X10:Part .i64 h10 (.slice ax xs.length cx) xs:=X9.P.keep fun y hy=>kp y (X9.P.held y hy) fun e=>L7.P.held y e (X.N y hy)
   have Y10:Part .i64 h10 (.slice ay ys.length cy) ys:=Y9.P.keep fun y hy=>kp y (Y9.P.held y hy) fun e=>L7.P.held y e (Y.N y hy)
   refine fun _=>Xs hi H hl L10 (J1 ow ohs) (by omega) X10 Y10 hx hy fx fy _ _ _ _ ?_ _ _ _ _ _ _ _ _ _ _ _ _
   exact fun a3 c3 h2 us t2 L11 o11 g1 g2 _=>nxt L11 o11 (by omega) (by omega)
  ·refine Xs hi H hl L7 ow (by omega) PF PG (by rw[qn];omega) (by simp) WQ WR _ _ _ _ ?_ _ _ _ _ _ _ _ _ _ _ _ _;exact fun a3 c3 h2 us t2 L11 o11 g1 g2 _=>nxt L11 o11 (by omega) (by omega)
end
variable {ae:Option Addr}{ce:Nat}{es:List Int}
section
theorem GSt.of(Hg:zI h0 g b T code a c)(P:Part k h2 v ys)(N:qaD g v)(s:qaB g h2):GSt k h0 g h2 b T code a c v ys:=⟨P,N,Hg.mono s,fun y hy _=>sub_eq s hy⟩
theorem Xt(hi:qaC S h0)(H:zI h0 h b T code a c)(hl:code.length<=1048576)(L:GSt .u8 h0 h g b T code a c (.slice a1 l1 c1) zs)(el:l1=zs.length)(hz:zs.length<=29000)(k:Int)(Ks:List Kt)(e1 e2 e5 e6:Value) :
  dbT.wp oPP S yb (qu .u8 h0 h b T code a c fun ys=>ys.length<=30000) [.pointer (some ⟨b,0,none⟩),e1,e2,.slice a1 l1 c1,.int .i64 k,e5,e6] g Ks:=by
 subst el;simp only[dbT,Tr.wp,z4,Ex.ev,coerce,toInt_int,za,zc,ze,zd,zx,z9,Cst.val,SV.den,zn,zL,zz,zk,zi,zy,vF,vG,vA,vB,vD,vE,vI,vH,vJ,if_false,vK];refine⟨fun _=>?_,fun _=>⟨fun _=>?_,fun _=>⟨_,_,zs,rfl,by omega,L⟩⟩⟩
 ·refine(Qb hi L.C hl 3 (by omega) (by omega)).mono ?_;rintro _ h3 ⟨a3,c3,ys,rfl,hy,D⟩;have L3:=L.step H D.C D.F;obtain⟨_,_,e,_,hy3⟩:=D.P.ints;cases e
  refine⟨_,_,_,rfl,?_⟩;refine GSt.apps hi H L3 (fun _ _ e=>e) hy3 (by omega) (by omega) fun a4 c4 h4 L4 _=>?_
  simp only[zd,zc,ze];exact⟨_,_,_,rfl,by show(zs++ys).length<=30000;rw[List.length_append];omega,L4⟩
 ·refine(zU hi L.C hl 20 (by omega) (by omega)).mono ?_;rintro _ h3 ⟨n,rfl,n0,n1,C3,f3⟩;have L3:=L.cur H C3 f3;refine⟨_,rfl,?_⟩;refine(Qb hi C3 hl n (by omega) (by omega)).mono ?_;rintro _ h4 ⟨a4,c4,ys,rfl,hy,D⟩;exact⟨_,_,_,rfl,_,_,ys,rfl,by omega,D.base L3.F C3.held⟩
theorem NJ(hi:qaC S h0)(H:zI h0 h b T code a c)(hl:code.length<=1048576)(t0:Int) :
  zb oPP S qW #[.pointer (some ⟨b,0,none⟩),.int .i64 t0] h (qu .u8 h0 h b T code a c fun zs=>zs.length<=30000):=by
 refine FF (vs:=[.pointer (some ⟨b,0,none⟩),.int .i64 t0]) ⟨rfl,rfl,trivial⟩ (hi.sub H.sub) ?_;rw[Cb];simp only[Tr.wp,z4,Ex.ev,coerce,toInt_int,za,zc,ze,zd,zf,zx,zM,xW,jI,z9,arith,Cst.val,SV.den,zn,zL,zz,zk,zi,zy,zq,yk,vF,vG,vA,vB,vC,List.getElem?_cons_succ,decide_eq_true_eq,vD,vE,vI,vH,vJ,and_true,if_false,vK];refine(Fu hi H hl t0).mono ?_;rintro _ h1 ⟨a1,c1,bs,rfl,⟨hb1,hb2,ob⟩,B⟩;obtain⟨_,_,e,_,hx1⟩:=B.P.ints;cases e
 refine⟨_,_,_,rfl,?_⟩;refine(MZ (c:=c1) (hi.sub B.C.sub) hx1 ob (by omega)).mono ?_;rintro v h2 ⟨O,N,s⟩;have L0:GSt .u8 h0 h1 h2 b T code a c v (pk bs bs.length):=GSt.of B.C O (fun y hy=>N y hy) s;obtain⟨a2,c2,rfl,hc2,_⟩:=L0.P.ints;have L:=L0.base B.F B.C.held;have hlen:(pk bs bs.length).length=(bs.length+7)/8:=D6;obtain⟨zs,hzs⟩:∃zs,zs=pk bs bs.length:=⟨_,rfl⟩;rw[<-hzs]at L hlen hc2 ⊢;refine⟨_,_,_,rfl,?_⟩;refine(zU hi L.C hl 10 (by omega) (by omega)).mono ?_;rintro _ h3 ⟨k,rfl,k0,k1,C3,f3⟩;have L3:=L.cur H C3 f3;refine⟨_,rfl,?_⟩;refine(zU hi C3 hl (zs.length:Int) (by omega) (by omega)).mono ?_;rintro _ h4 ⟨q,rfl,q0,q1,C4,f4⟩;have L4:=L3.cur H C4 f4;obtain⟨q,rfl⟩:=Int.eq_ofNat_of_zero_le q0;have hq:q<zs.length:=by omega
 refine⟨_,rfl,?_⟩;refine(zU hi C4 hl 8 (by omega) (by omega)).mono ?_;rintro _ h5 ⟨x,rfl,x0,x1,C5,f5⟩;have L5:=L4.cur H C5 f5;obtain⟨_,n5,g5⟩:=L5.cell hq;refine⟨_,rfl,fun _=>⟨by omega,by omega,?_⟩,fun _=>⟨fun _=>?_,fun _ _=>Xt hi H hl L5 rfl (by omega) _ _ _ _ _ _⟩⟩
 ·obtain⟨a6,c6,e6,L6⟩:=L5.FA (n:=q) (by omega);rw[Int.toNat_natCast,e6];exact⟨_,_,_,rfl,by show(zs.take q).length<=30000;rw[List.length_take];omega,L6⟩
 ·refine⟨n5,by omega,by omega,zs[q],by rw[Int.toNat_natCast];exact g5,?_⟩;refine(jK (hi.sub C5.sub) x x0 (by omega)).mono ?_;rintro _ h6 ⟨rfl,rfl⟩;refine⟨_,rfl,fun p hp=>?_,n5,by omega,by omega,?_⟩
  ·simp only[List.mem_cons,List.not_mem_nil,or_false]at hp;rcases hp with rfl
   rw[add_add,Nat.add_zero]at g5;simp only[Ex.ev,coerce,toInt_int,zc,ze,zd,zf,vA,vB];rw[Int.toNat_natCast];exact g5
  ·rw[Int.toNat_natCast];obtain⟨o1,L6⟩:=L5.set hi H hq (Go.bits .xor .u8 zs[q] (IntKind.u8.wrap ((2^x.toNat:Nat):Int)));exact⟨o1,fun _=>Xt hi H hl L6 (List.length_set ..).symm (by rw[List.length_set];omega) _ _ _ _ _ _⟩
theorem WT(hi:qaC S h0)(H:zI h0 h b T code a c)(hl:code.length<=1048576) :
  zb oPP S Ci #[.pointer (some ⟨b,0,none⟩)] h (fun v h'=>∃n,v=.int .i64 n/\0<=n/\n<=32769/\zI h0 h' b T code a c/\∀y,y≠b->h' y=h y):=by
 refine Kw (vs:=[.pointer (some ⟨b,0,none⟩)]) ⟨rfl,trivial⟩ (hi.sub H.sub) ?_;simp only[Gu,Tr.wp,z4,Ex.ev,coerce,toInt_int,za,zx,z9,arith,Cst.val,SV.den,zn,zL,zz,zk,zi,zy,vF,vG,vA,vB,vD,vE,vI,vH,vJ,if_false,vK];refine(zU hi H hl 10 (by omega) (by omega)).mono ?_;rintro _ h1 ⟨x,rfl,x0,x1,C1,f1⟩;refine⟨_,rfl,fun _=>?_,fun _=>⟨fun _=>?_,fun _=>⟨_,rfl,by omega,by omega,C1,f1⟩⟩⟩
 ·refine(zU hi C1 hl 20 (by omega) (by omega)).mono ?_;rintro _ h2 ⟨y,rfl,y0,y1,C2,f2⟩;exact⟨_,rfl,_,rfl,y0,by omega,C2,fun z hz=>by rw[f2 z hz,f1 z hz]⟩
 ·refine(zU hi C1 hl 2 (by omega) (by omega)).mono ?_;rintro _ h2 ⟨y,rfl,y0,y1,C2,f2⟩;have w:IntKind.i64.wrap (32768+y)=32768+y:=i64_in _ (by omega);exact⟨_,rfl,_,rfl,by rw[w];omega,by rw[w];omega,C2,fun z hz=>by rw[f2 z hz,f1 z hz]⟩
def ZZ(h:qaA)(v:Value)(h':qaA):Prop:=
 ∃a1 c1 bs a2 c2 ds n,v=.tuple #[.slice a1 bs.length c1,.int .i64 n,.slice a2 ds.length c2]/\bs.length<=70000/\ds.length<=100/\0<=n/\n<=32769/\tB.O h' (.slice a1 bs.length c1) bs/\tB.O h' (.slice a2 ds.length c2) ds/\qaB h h'
theorem RG(n:Nat):yl (n*1) #[Value.int .u8 0]=ints .u8 (List.replicate n 0):=by
 rw[Nat.mul_one];exact(ID n (Value.int .u8 0)).trans (by simp[ints])
theorem Xu(hi:qaC S h)(H:zI h h1 b T code a c)(hl:code.length<=1048576)(E:GSt .u8 h h1 g b T code a c (.slice ae es.length ce) es)(he:es.length<=100)(Ks:List Kt)(e0 e2 e3:Value) :
  diT.wp oPP S yb (ZZ h) [e0,.pointer (some ⟨b,0,none⟩),e2,e3,.slice ae es.length ce] g Ks:=by
 simp only[diT,Tr.wp,Fx,z4,Ex.ev,coerce,toInt_int,za,zc,ze,zd,zx,arith,Cst.val,SV.den,zn,zL,zz,zk,zi,zy,vF,vG,vA,vB,vD,vE,vI,vH,vJ,if_false,vK];refine(xP hi E.C hl 60 (by omega) (by omega)).mono ?_;rintro _ h2 ⟨t,rfl,C2,f2⟩;have E2:=E.cur H C2 f2;refine⟨_,rfl,fun _=>?_,fun _=>?_⟩
 ·refine(zU hi C2 hl 2 (by omega) (by omega)).mono ?_;rintro _ h3 ⟨x,rfl,x0,x1,C3,f3⟩;have E3:=E2.cur H C3 f3;obtain⟨x,rfl⟩:=Int.eq_ofNat_of_zero_le x0;have w:IntKind.i64.wrap (65536+(x:Int))=((65536+x:Nat):Int):=zr;refine⟨_,rfl,?_⟩;rw[w];have w2:IntKind.i64.wrap ((65536+x:Nat):Int)=((65536+x:Nat):Int):=zr;rw[w2];refine⟨by omega,by omega,by omega,fun b4 hb4=>?_⟩;rw[Int.toNat_natCast,RG];have s4:qaB h3 (upd h3 b4 (.cells (ints .u8 (List.replicate (65536+x) 0)) 5)):=Sub.zC hb4;have P4:Part .u8 (upd h3 b4 (.cells (ints .u8 (List.replicate (65536+x) 0)) 5)) (.slice (some ⟨b4,0,none⟩) (List.replicate (65536+x) (0:Int)).length (List.replicate (65536+x) (0:Int)).length) (List.replicate (65536+x) 0):=(Own.made _).part;have lr:(List.replicate (65536+x) (0:Int)).length=65536+x:=List.length_replicate ..;refine⟨_,_,List.replicate (65536+x) 0,_,_,es,32768,by rw[lr],by rw[lr];omega,he,by omega,by omega,P4,(E3.sub H s4).P,C3.sub.trans s4⟩
 ·refine(NJ hi C2 hl (es.length:Int)).mono ?_;rintro _ h3 ⟨a3,c3,bs,rfl,hb,B⟩;have E3:=E2.step H B.C B.F;refine⟨_,_,_,rfl,?_⟩;refine(WT hi B.C hl).mono ?_;rintro _ h4 ⟨n,rfl,n0,n1,C4,f4⟩;have E4:=E3.cur H C4 f4;have B4:=B.cur C2 C4 f4;exact⟨_,rfl,_,_,bs,_,_,es,n,rfl,by omega,he,n0,n1,B4.P,E4.P,C4.sub⟩
theorem NK(hi:qaC S h)(hx:zo h .u8 a code)(hl:code.length<=1048576) :
  zb oPP S qV #[.slice a code.length c] h (ZZ h):=by
 refine FE (vs:=[.slice a code.length c]) ⟨rfl,trivial⟩ hi ?_;rw[Ca];simp only[Tr.wp,z4,Ex.ev,coerce,za,zc,ze,zd,zx,Cst.val,SV.den,zn,zL,zz,zk,zi,zy,vF,vG,vA,vB,vC,vD,vE,vI,vH,vJ,if_false,vK];refine(RF hi hx hl).mono ?_;rintro _ h1 ⟨b,T,rfl,H⟩;refine⟨_,rfl,?_⟩;refine(J0 hi H hl 20 (by omega) (by omega)).mono fun v h2 D2=>?_
 obtain⟨ad,cd,ds,rfl,hds,D,_⟩:=J2 D2;refine⟨_,_,_,rfl,?_⟩;refine(xP hi D.C hl 2 (by omega) (by omega)).mono ?_;rintro _ h3 ⟨t,rfl,C3,f3⟩;have D3:=D.cur H C3 f3;refine⟨_,rfl,fun _ b1 hb1 _=>?_,fun _ _=>Xu hi H hl D3 (by omega) _ _ _ _⟩;exact Xu hi H hl (es:=[]) (GSt.new' C3 D3.F hb1 []) (by simp) _ _ _ _
end
section
def le(x n:Nat):List Int:=(List.range n).map fun i=>((x/256^i%256:Nat):Int)
def be(x n:Nat):List Int:=(le x n).reverse
theorem UY{x n:Nat}:(le x n).length=n:=by simp[le]
theorem zaa{x n:Nat}:(be x n).length=n:=by simp[be,UY]
theorem le_succ{x n:Nat}:le x (n+1)=le x n++[((x/256^n%256:Nat):Int)]:=by simp[le,List.range_succ]
theorem YK{x n:Nat}:be x (n+1)=[((x/256^n%256:Nat):Int)]++be x n:=by simp[be,le_succ]
def Ax(x n:Nat)(hb:Bool):List Int:=if hb then be x n else le x n
theorem J3{x n:Nat}{hb:Bool}:(Ax x n hb).length=n:=by unfold Ax;split <;> simp[zaa,UY]
theorem YL(hi:qaC S h)(x:Nat)(hx:x<18446744073709551616)(n:Nat)(hn:n<=8)(hb:Bool) :
  zb oPP S kQ #[.int .u64 x,.int .i64 n,.bool hb] h (fun v h'=>Part .u8 h' v (Ax x n hb)/\qaD h v/\qaB h h'):=by
 refine LW (vs:=[.int .u64 x,.int .i64 n,.bool hb]) ⟨rfl,rfl,rfl,trivial⟩ hi ?_;simp only[Hi,Tr.wp,Ex.ev,coerce,toInt_int,za,zc,ze,zd,z9,arith,Cst.val,SV.den,zV,vA,vB,vC,List.getElem?_cons_succ,decide_eq_true_eq,decide_eq_false_iff_not,vD,vE,vI,vH];intro b0 hb0;refine⟨fun us h'=>∃(i:Nat) (a:Option Addr) (c:Nat),us=[.int .u64 ((x/256^i:Nat):Int),.slice a i c,.int .i64 i]/\i<=n/\Part .u8 h' (.slice a i c) (Ax x i hb)/\qaD h (.slice a i c)/\qaB h h',
  fun us _=>n-(toInt (us.getD 2 undef)).toNat,⟨0,some ⟨b0,0,none⟩,0,by simp,by omega,?_,New.of hb0,Sub.zC hb0⟩,?_⟩
 ·have e:Ax x 0 hb=[]:=by cases hb <;> rfl
  rw[e];exact(Own.made (k:=.u8) (h:=h) (b:=b0) (T:=5) []).part
 rintro y a1 l1 c1 z h' ⟨i,a2,c2,hx1,hi2,P,N,s⟩;simp only[List.cons.injEq,Value.int.injEq,Value.slice.injEq,true_and,and_true]at hx1;obtain⟨rfl,⟨rfl,rfl,rfl⟩,rfl⟩:=hx1;refine⟨fun hlt=>?_,fun hge=>?_⟩
 ·have hp:0<256^l1:=Nat.pow_pos (by omega);have hle:x/256^l1<=x:=Nat.div_le_self _ _;have wb:IntKind.u8.wrap (((x/256^l1:Nat):Int).tmod 256)=((x/256^l1%256:Nat):Int):=by
   generalize x/256^l1=q at hle;rw[Int.tmod_eq_emod_of_nonneg (by omega),IntKind.wrap_u8];omega
  have wd:IntKind.u64.wrap (((x/256^l1:Nat):Int).tdiv 256)=((x/256^(l1+1):Nat):Int):=by
   rw[Nat.pow_succ,<-Nat.div_div_eq_div_mul];generalize x/256^l1=q at hle;rw[u64_quo _ _ ⟨by omega,by omega,by omega⟩];omega
  have w2:IntKind.i64.wrap ((l1:Int)+1)=((l1+1:Nat):Int):=zr;have hl0:(Ax x l1 hb).length=l1:=J3;rw[wb,wd,w2];obtain⟨a3,c3,e3,hc3,g3⟩:=P.ints;rw[hl0]at e3;cases e3
  have hlt2:l1<n:=by omega
  have fin:∀(v':Value) (h3:qaA),Part .u8 h3 v' (Ax x (l1+1) hb)->qaD h v'->qaB h h3 ->
    (fun(us:List Value) (h':qaA)=>∃(i:Nat) (a:Option Addr) (c:Nat),us=[.int .u64 ((x/256^i:Nat):Int),.slice a i c,.int .i64 i]/\i<=n/\Part .u8 h' (.slice a i c) (Ax x i hb)/\qaD h (.slice a i c)/\qaB h h') [.int .u64 ((x/256^(l1+1):Nat):Int),.slice (slA v') (slL v') (slC v'),.int .i64 ((l1+1:Nat):Int)] h3 /\
    (fun(us:List Value) (_:qaA)=>n-(toInt (us.getD 2 undef)).toNat) [.int .u64 ((x/256^(l1+1):Nat):Int),.slice (slA v') (slL v') (slC v'),.int .i64 ((l1+1:Nat):Int)] h3<(fun(us:List Value) (_:qaA)=>n-(toInt (us.getD 2 undef)).toNat) [.int .u64 ((x/256^l1:Nat):Int),.slice a1 l1 c1,.int .i64 (l1:Int)] h':=by
   intro v' h3 o n3 s4;have el:(Ax x (l1+1) hb).length=l1+1:=J3;obtain⟨a4,c4,rfl,_,_⟩:=o.ints;rw[el]at o n3;simp only[zd,zc,ze,el];exact⟨⟨l1+1,a4,c4,rfl,by omega,o,n3,s4⟩,by simp only[vB,vA,toInt_int,Int.toNat_natCast];omega⟩
  have sb:∀b,h' b=none->qaB h' (upd h' b (.cells (ints .u8 [((x/256^l1%256:Nat):Int)]) 5)):=fun b hnb=>Sub.zC hnb
  have hb1:[((x/256^l1%256:Nat):Int)]++Ax x l1 true=Ax x (l1+1) true:=YK.symm;have hb0:Ax x l1 false++[((x/256^l1%256:Nat):Int)]=Ax x (l1+1) false:=le_succ.symm;generalize hz:Ax x l1 hb=zs at P g3 hl0;generalize ((x/256^l1%256:Nat):Int)=q at sb hb0 hb1 ⊢;obtain rfl:l1=zs.length:=hl0.symm;refine⟨fun hh b hnb=>?_,fun hh b hnb=>?_⟩
  ·subst hh;refine yA (xs:=[q]) hi (s.trans (sb b hnb)) (Own.made (k:=.u8) [q]).part (New.of (ya s hnb)) (ys:=zs) (g3.sub (sb b hnb)) (by simp only[List.length_singleton];omega) fun v' h3 o n3 s4 _ _=>fun _=>fin v' h3 ?_ n3 s4
   rw[hz]at hb1;rw[<-hb1];exact o
  ·subst hh;refine yA (xs:=zs) hi (s.trans (sb b hnb)) (P.sub (sb b hnb)) N (ys:=[q]) zo.new (by simp only[List.length_singleton];omega) fun v' h3 o n3 s4 _ _=>fun _=>fin v' h3 ?_ n3 s4
   rw[hz]at hb0;rw[<-hb0];exact o
 ·obtain rfl:l1=n:=by omega
  exact⟨P,N,s⟩
end
variable {az:Option Addr}{cz:Nat}
section
theorem YM(z:Int):∃x:Nat,IntKind.u64.wrap z=x/\x<18446744073709551616:=
 ⟨(IntKind.u64.wrap z).toNat,by rw[IntKind.wrap_u64];omega,by rw[IntKind.wrap_u64];omega⟩
theorem Qd(hi:qaC S h0)(H:zI h0 h b T code a c)(z:Int)(n:Nat)(hn:n<=8) :
  zb oPP S kQ #[.int .u64 (IntKind.u64.wrap z),.int .i64 n,.bool true] h (qu .u8 h0 h b T code a c fun ys=>ys.length=n):=by
 obtain⟨x,e,hx⟩:=YM z;rw[e];refine(YL (hi.sub H.sub) x hx n hn true).mono ?_;rintro v h2 ⟨P,N,s⟩;have L:GSt .u8 h0 h h2 b T code a c v (Ax x n true):=GSt.of H P N s;obtain⟨a2,c2,rfl,_,_⟩:=P.ints;exact⟨_,_,_,rfl,J3,L⟩
theorem zab(h1:8<=m)(h2:m<=15):(Lit.int .i64 ((2^m:Nat):Int)).wf=true:=by
 have:m=8\/m=9\/m=10\/m=11\/m=12\/m=13\/m=14\/m=15:=by omega
 rcases this with rfl | rfl | rfl | rfl | rfl | rfl | rfl | rfl <;> decide
theorem Xv(hi:qaC S h0)(H:zI h0 h b T code a c)(hl:code.length<=1048576)(U:Part .u8 h (.slice au us.length cu) us)(hub:zh (.slice au us.length cu)≠some b)(hul:us.length<=100){os:List Int}(L:GSt .u8 h0 h g b T code a c (.slice ao os.length co) os)(hol:os.length<=10){p q:Int}(hp:0<=p/\p<8)(hq:0<=q/\q<2)(Ks:List Kt)(e4 e5:Value) :
  lzT.wp oPP S yb (qu .u8 h0 h b T code a c fun ys=>1<=ys.length/\ys.length<=30000) [.pointer (some ⟨b,0,none⟩),.slice au us.length cu,.int .i64 p,.int .i64 q,e4,e5,.slice ao os.length co] g Ks:=by
 simp only[lzT,Tr.wp,z4,Ex.ev,coerce,toInt_int,zc,ze,zd,zx,arith,Cst.val,SV.den,zn,zL,zz,zk,zi,zy,vF,vG,vA,vB,vD,vE,vI,vH,vJ,Nat.zero_add,if_false,vK];refine(Fu hi L.C hl (us.length:Int)).mono ?_;rintro _ h1 ⟨a1,c1,bs,rfl,⟨hb1,hb2,ob⟩,B⟩;have L1:=L.step H B.C B.F;obtain⟨_,_,e,_,hx1⟩:=B.P.ints;cases e
 refine⟨_,_,_,rfl,?_⟩;refine(MZ (c:=c1) (hi.sub B.C.sub) hx1 ob (by omega)).mono ?_;rintro v h2 ⟨O,N,s⟩;have Z:GSt .u8 h0 h1 h2 b T code a c v (pk bs bs.length):=GSt.of B.C O (fun y hy=>N y hy) s;have hlen:(pk bs bs.length).length=(bs.length+7)/8:=D6;obtain⟨zs,hzs⟩:∃zs,zs=pk bs bs.length:=⟨_,rfl⟩;rw[<-hzs]at Z hlen;obtain⟨a2,c2,rfl,hc2,hz2⟩:=Z.P.ints;have L2:=L1.sub H s;have U2:=qw U hub L2.F;obtain⟨m,hm,m8,m15⟩:∃m:Nat,IntKind.i64.wrap (IntKind.i64.wrap (7-IntKind.i64.wrap (p*q))+8)=m/\8<=m/\m<=15:=by
  have key:∀z:Int,0<=z->z<=7->∃m:Nat,IntKind.i64.wrap (IntKind.i64.wrap (7-IntKind.i64.wrap z)+8)=m/\8<=m/\m<=15:=fun z z0 z1=>by
   rw[i64_in z (by omega),i64_in (7-z) (by omega),i64_in _ (by omega)];exact⟨(7-z+8).toNat,by omega,by omega,by omega⟩
  rcases(show q=0\/q=1 by omega)with rfl | rfl
  ·exact key (p*0) (by omega) (by omega)
  ·exact key (p*1) (by omega) (by omega)
 rw[hm];refine⟨_,_,_,rfl,?_⟩;refine(jK (hi.sub L2.C.sub) (m:Int) (by omega) (by omega)).mono ?_;rintro _ h3 ⟨rfl,rfl⟩;rw[Int.toNat_natCast];refine⟨_,rfl,?_⟩;refine(Fi (hi.sub L2.C.sub) Z.P (show zs.length<=1048576 by omega) _ (zab m8 m15) U2 (show us.length<=1048576 by omega)).mono ?_;rintro v h4 ⟨OI,NI,s4⟩;obtain⟨ai,ci,rfl⟩:=Uq (xx.OR OI);have PI:=Pg OI;obtain⟨ans,hans⟩:∃ans,ans=zK zs ((2^m:Nat):Int) us:=⟨_,rfl⟩;rw[<-hans]at PI NI ⊢;have L4:=L2.sub H s4;refine⟨_,_,_,_,_,rfl,?_⟩;have hO:∀y,zh (.slice ai ans.2.1.length ci)=some y->zh (.slice ao os.length co)≠some y:=fun y hy e=>by
  have h1:=NI y ((Hu (x:=ans)).2 hy);exact L2.P.held y e h1
 obtain⟨_,_,ez,_,hz4⟩:=(Z.P.sub s4).ints;cases ez
 have smA:ans.2.1.length<=1099511627776:=by rw[hans];exact Sv (show zs.length<=1048576 by omega) (show us.length<=1048576 by omega)
 refine GSt.apps hi H L4 (fun _ _ e=>e) hz4 (by omega) (by omega) fun a5 c5 h5 L5 kp=>?_
 simp only[zd,zc,ze];have l5:(os++zs).length=os.length+zs.length:=List.length_append;obtain⟨_,_,ei,_,hi5⟩:=(PI.keep (h':=h5) fun y hy=>kp y (PI.held y hy) (hO y hy)).ints;cases ei
 refine(kq (hi.sub L5.C.sub) 1 ai ci ans.2.1 hi5 (by omega)).mono ?_;rintro _ h6 ⟨rfl,rfl⟩;refine⟨_,rfl,?_⟩;refine(Qd hi L5.C (yQ 1 ans.2.1) 4 (by omega)).mono ?_;rintro _ h7 ⟨a7,c7,ys,rfl,hy,Y⟩;have L7:=L5.step H Y.C Y.F;obtain⟨_,_,ey,_,hy7⟩:=Y.P.ints;cases ey
 refine⟨_,_,_,rfl,?_⟩;refine GSt.apps hi H L7 (fun _ _ e=>e) hy7 (by omega) (by omega) fun a8 c8 h8 L8 _=>?_
 simp only[zd,zc,ze];have l8:(os++zs++ys).length=os.length+zs.length+ys.length:=by rw[List.length_append,l5]
 exact⟨_,_,_,rfl,⟨by omega,by omega⟩,L8⟩
theorem WU(hi:qaC S h0)(H:zI h0 h b T code a c)(hl:code.length<=1048576)(U:Part .u8 h (.slice au us.length cu) us)(hub:zh (.slice au us.length cu)≠some b)(hul:us.length<=100) :
  zb oPP S Cj #[.pointer (some ⟨b,0,none⟩),.slice au us.length cu] h (qu .u8 h0 h b T code a c fun ys=>1<=ys.length/\ys.length<=30000):=by
 refine Ky (vs:=[.pointer (some ⟨b,0,none⟩),.slice au us.length cu]) ⟨rfl,rfl,trivial⟩ (hi.sub H.sub) ?_;rw[Gw];simp only[Tr.wp,z4,Ex.ev,coerce,toInt_int,za,zc,ze,zd,zx,xL,z9,arith,Cst.val,SV.den,zn,zL,zz,zk,zi,zy,vF,vG,vA,vB,vC,decide_eq_true_eq,decide_eq_false_iff_not,vD,vE,vI,vH,vJ,if_false,vK];refine(zU hi H hl 8 (by omega) (by omega)).mono ?_;rintro _ h1 ⟨p,rfl,p0,p1,C1,f1⟩;refine⟨_,rfl,?_⟩;refine(zU hi C1 hl 2 (by omega) (by omega)).mono ?_;rintro _ h2 ⟨q,rfl,q0,q1,C2,f2⟩;refine⟨_,rfl,?_⟩;refine(zU hi C2 hl 4 (by omega) (by omega)).mono ?_;rintro _ h3 ⟨r,rfl,r0,r1,C3,f3⟩;refine⟨_,rfl,?_⟩;have f:∀y,h y≠none->y≠b->h3 y=h y:=fun y _ hy=>by rw[f3 y hy,f2 y hy,f1 y hy]
 refine(Qd hi C3 _ 2 (by omega)).mono ?_;rintro _ h4 ⟨a4,c4,os,rfl,ho,O⟩;have L4:=O.base f C3.held;refine⟨_,_,_,rfl,fun hpos=>?_,fun _ _=>Xv hi H hl U hub hul L4 (by omega) ⟨p0,p1⟩ ⟨q0,q1⟩ _ _ _⟩;obtain⟨_,_,e,_,hu4⟩:=(qw U hub L4.F).ints;cases e
 refine(kq (hi.sub L4.C.sub) 1 au cu us hu4 (by omega)).mono ?_;rintro _ h6 ⟨rfl,rfl⟩;refine⟨_,rfl,?_⟩;refine(Qd hi L4.C (yQ 1 us) 4 (by omega)).mono ?_;rintro _ h7 ⟨a7,c7,ys,rfl,hy,Y⟩;have L7:=L4.step H Y.C Y.F;obtain⟨_,_,ey,_,hy7⟩:=Y.P.ints;cases ey
 refine⟨_,_,_,rfl,?_⟩;refine GSt.apps hi H L7 (fun _ _ e=>e) hy7 (by omega) (by omega) fun a8 c8 h8 L8 _=>?_
 simp only[zd,zc,ze];have l8:(os++ys).length=os.length+ys.length:=List.length_append;exact fun _=>Xv hi H hl U hub hul L8 (by omega) ⟨p0,p1⟩ ⟨q0,q1⟩ _ _ _
theorem Xw(hi:qaC S h0)(H:zI h0 h b T code a c)(L:GSt .u8 h0 h g b T code a c (.slice a1 l1 c1) zs)(el:l1=zs.length)(hm:zs.length<=m)(hq:q<zs.length)(x:Int)(Ks:List Kt)(e0 e1 e2 e4 e5:Value) :
  lsT.wp oPP S yb (qu .u8 h0 h b T code a c fun ys=>ys.length<=m) [e0,e1,e2,.int .i64 x,e4,e5,.slice a1 l1 c1,.int .i64 q] g Ks:=by
 subst el;simp only[lsT,Tr.wp,Ex.ev,coerce,toInt_int,za,zc,ze,zd,zf,zM,z9,arith,Cst.val,SV.den,zy,zq,yk,vA,vB,decide_eq_true_eq,vD,vE,vI,vH,and_true];obtain⟨_,n1,g1⟩:=L.cell hq;refine⟨n1,by omega,by omega,zs[q],by rw[Int.toNat_natCast];exact g1,n1,by omega,by omega,?_⟩;rw[Int.toNat_natCast];obtain⟨o1,L2⟩:=L.set hi H hq (Go.bits .xor .u8 zs[q] (IntKind.u8.wrap (IntKind.i64.wrap (1+x))));refine⟨o1,a1,c1,_,?_,?_,L2⟩
 ·rw[List.length_set]
 ·show(zs.set q _).length<=m;rw[List.length_set];exact hm
theorem UZ(hi:qaC S h0)(H:zI h0 h b T code a c)(hl:code.length<=1048576)(L:GSt .u8 h0 h g b T code a c (.slice a1 zs.length c1) zs)(h1:1<=zs.length)(h2:zs.length<=30000) :
  zb oPP S By #[.pointer (some ⟨b,0,none⟩),.slice a1 zs.length c1] g (qu .u8 h0 h b T code a c fun ys=>ys.length<=40000):=by
 refine Jj (vs:=[.pointer (some ⟨b,0,none⟩),.slice a1 zs.length c1]) ⟨rfl,rfl,trivial⟩ (hi.sub L.C.sub) ?_;rw[Fa];simp only[Tr.wp,z4,Ex.ev,coerce,toInt_int,za,zc,ze,zd,zx,xg,xW,jI,z9,Cst.val,SV.den,zn,zL,zz,zk,zi,zy,vF,vG,vA,vB,vC,List.getElem?_cons_succ,decide_eq_true_eq,vD,vE,vI,vH,vJ,if_false,vK];refine(zU hi L.C hl (zs.length:Int) (by omega) (by omega)).mono ?_;rintro _ g1 ⟨q,rfl,q0,q1,C1,f1⟩;have L1:=L.cur H C1 f1;obtain⟨q,rfl⟩:=Int.eq_ofNat_of_zero_le q0;refine⟨_,rfl,?_⟩;refine(zU hi C1 hl 255 (by omega) (by omega)).mono ?_;rintro _ g2 ⟨x,rfl,x0,x1,C2,f2⟩;have L2:=L1.cur H C2 f2;refine⟨_,rfl,?_⟩;refine(zU hi C2 hl 4 (by omega) (by omega)).mono ?_;rintro _ g3 ⟨k,rfl,k0,k1,C3,f3⟩;have L3:=L2.cur H C3 f3;obtain⟨_,_,e,hc1,hz3⟩:=L3.P.ints;cases e
 refine⟨_,rfl,fun _=>⟨by omega,by omega,?_⟩,fun _=>⟨fun _=>?_,fun _ b1 hb1=>?_⟩⟩
 ·obtain⟨a6,c6,e6,L6⟩:=L3.FA (n:=q) (by omega);rw[Int.toNat_natCast,e6];exact⟨_,_,_,rfl,by show(zs.take q).length<=40000;rw[List.length_take];omega,L6⟩
 ·refine(Qb hi C3 hl 4 (by omega) (by omega)).mono ?_;rintro _ g4 ⟨a4,c4,ys,rfl,hy,Y⟩;have L4:=L3.step H Y.C Y.F;obtain⟨_,_,ey,_,hy4⟩:=Y.P.ints;cases ey
  refine⟨_,_,_,rfl,?_⟩;refine GSt.apps hi H L4 (fun _ _ e=>e) hy4 (by omega) (by omega) fun a5 c5 g5 L5 _=>?_
  simp only[zd,zc,ze];exact⟨_,_,_,rfl,by show(zs++ys).length<=40000;rw[List.length_append];omega,L5⟩
 ·have N4:GSt .u8 h0 g3 (upd g3 b1 (.cells #[] 5)) b T code a c (.slice (some ⟨b1,0,none⟩) 0 0) []:=GSt.new C3 hb1 [];refine GSt.apps hi C3 N4 (fun _ _ e=>e) (hz3.sub (Sub.zC hb1)) (by omega) (by simp;omega) fun a5 c5 g5 N5 _=>?_
  have N5:GSt .u8 h0 g3 g5 b T code a c (.slice a5 zs.length c5) zs:=N5;have M5:=N5.base L3.F C3.held;refine⟨fun hc=>?_,fun _ _=>Xw hi H M5 rfl (by omega) (by omega) _ _ _ _ _ _ _⟩;have h12:12<zs.length:=by simp at hc;omega
  refine(zU hi M5.C hl 12 (by omega) (by omega)).mono ?_;rintro _ g6 ⟨r,rfl,r0,r1,C6,f6⟩;obtain⟨r,rfl⟩:=Int.eq_ofNat_of_zero_le r0;exact⟨_,rfl,fun _=>Xw hi H (M5.cur H C6 f6) rfl (by omega) (by omega) _ _ _ _ _ _ _⟩
def WV(h:qaA)(v:Value)(h':qaA):Prop:=
 ∃a1 c1 bs a2 c2 ds,v=.tuple #[.slice a1 bs.length c1,.slice a2 ds.length c2]/\bs.length<=70000/\ds.length<=100/\okB ds/\tB.O h' (.slice a1 bs.length c1) bs/\tB.O h' (.slice a2 ds.length c2) ds/\qaB h h'
theorem Xx(hi:qaC S h)(H:zI h h1 b T code a c)(hl:code.length<=1048576)(Z:GSt .u8 h h1 g b T code a c (.slice az zs.length cz) zs)(hz:zs.length<=40000)(E:GSt .u8 h h1 g b T code a c (.slice ae es.length ce) es)(he:es.length<=100)(hb:okB es)(e0 e2 e3 e4 e6:Value) :
  dzC.wp oPP S yb (WV h) [e0,.pointer (some ⟨b,0,none⟩),e2,e3,e4,.slice az zs.length cz,e6,.slice ae es.length ce] g []:=by
 simp only[dzC,Tr.wp,Fx,z4,Ex.ev,coerce,toInt_int,za,zc,ze,zd,zx,arith,Cst.val,SV.den,zn,zL,zz,zk,zi,zy,vF,vG,vA,vB,vC,vD,vE,vI,vH,vJ,if_false,vK];refine(xP hi E.C hl 60 (by omega) (by omega)).mono ?_;rintro _ h2 ⟨t,rfl,C2,f2⟩;have E2:=E.cur H C2 f2;have Z2:=Z.cur H C2 f2;refine⟨_,rfl,fun _=>?_,fun _ _=>⟨_,_,zs,_,_,es,rfl,by omega,he,hb,Z2.P,E2.P,C2.sub⟩⟩;refine(zU hi C2 hl 2 (by omega) (by omega)).mono ?_;rintro _ h3 ⟨x,rfl,x0,x1,C3,f3⟩;have E3:=E2.cur H C3 f3;obtain⟨x,rfl⟩:=Int.eq_ofNat_of_zero_le x0;have w:IntKind.i64.wrap (65536+(x:Int))=((65536+x:Nat):Int):=zr;have w2:IntKind.i64.wrap ((65536+x:Nat):Int)=((65536+x:Nat):Int):=zr;refine⟨_,rfl,?_⟩;rw[w,w2];refine⟨by omega,by omega,by omega,fun b4 hb4=>?_⟩;rw[Int.toNat_natCast,RG];have s4:qaB h3 (upd h3 b4 (.cells (ints .u8 (List.replicate (65536+x) 0)) 5)):=Sub.zC hb4;have P4:Part .u8 (upd h3 b4 (.cells (ints .u8 (List.replicate (65536+x) 0)) 5)) (.slice (some ⟨b4,0,none⟩) (List.replicate (65536+x) (0:Int)).length (List.replicate (65536+x) (0:Int)).length) (List.replicate (65536+x) 0):=(Own.made _).part;have lr:(List.replicate (65536+x) (0:Int)).length=65536+x:=List.length_replicate ..;exact fun _=>⟨_,_,List.replicate (65536+x) 0,_,_,es,by rw[lr],by rw[lr];omega,he,hb,P4,(E3.sub H s4).P,C3.sub.trans s4⟩
theorem Va(hi:qaC S h0)(H:zI h0 h b T code a c)(hl:code.length<=1048576) :
  zb oPP S q9 #[.pointer (some ⟨b,0,none⟩)] h (qu .u8 h0 h b T code a c fun ys=>ys.length<=100/\okB ys):=by
 refine(WO hi H hl).mono fun v h2 D2=>?_
 obtain⟨ad,cd,ds,rfl,hds,D,hb⟩:=J2 D2;exact⟨_,_,ds,rfl,⟨hds,hb⟩,D⟩
theorem Xy(hi:qaC S h)(H:zI h h1 b T code a c)(hl:code.length<=1048576)(Z:GSt .u8 h h1 g b T code a c (.slice az zs.length cz) zs)(hz:zs.length<=40000)(E:GSt .u8 h h1 g b T code a c (.slice ae es.length ce) es)(he:es.length<=100)(hb:okB es)(e0 e3 e4:Value) :
  dzB.wp oPP S yb (WV h) [e0,.pointer (some ⟨b,0,none⟩),.slice ae es.length ce,e3,e4,.slice az zs.length cz] g []:=by
 simp only[dzB,Tr.wp,z4,Ex.ev,coerce,za,zc,ze,zd,zx,Cst.val,SV.den,zn,zL,zz,zk,zi,zy,vF,vG,vA,vB,vC,vD,vE,vI,vH,vJ,if_false,vK];refine(xP hi E.C hl 8 (by omega) (by omega)).mono ?_;rintro _ h2 ⟨t,rfl,C2,f2⟩;have E2:=E.cur H C2 f2;have Z2:=Z.cur H C2 f2;refine⟨_,rfl,fun _=>?_,fun _ _=>Xx hi H hl Z2 hz E2 he hb _ _ _ _ _⟩;refine(Va hi C2 hl).mono ?_;rintro _ h3 ⟨a3,c3,fs,rfl,⟨hf,hfb⟩,F⟩;exact⟨_,_,_,rfl,fun _=>Xx hi H hl (Z2.step H F.C F.F) hz (F.base Z2.F C2.held) hf hfb _ _ _ _ _⟩
theorem SL(hi:qaC S h)(hx:zo h .u8 a code)(hl:code.length<=1048576) :
  zb oPP S AL #[.slice a code.length c] h (WV h):=by
 refine I4 (vs:=[.slice a code.length c]) ⟨rfl,trivial⟩ hi ?_;rw[DZ];simp only[Tr.wp,z4,Ex.ev,coerce,za,zc,ze,zd,zx,Cst.val,SV.den,zn,zL,zz,zk,zi,zy,vF,vG,vA,vB,vC,vD,vE,vI,vH,vJ,if_false,vK];refine(RF hi hx hl).mono ?_;rintro _ h1 ⟨b,T,rfl,H⟩;refine⟨_,rfl,?_⟩;refine(Va hi H hl).mono ?_;rintro _ h2 ⟨ad,cd,ds,rfl,⟨hd,hdb⟩,D⟩;refine⟨_,_,_,rfl,?_⟩;refine(WU hi D.C hl D.P (D.ne H) hd).mono ?_;rintro _ h3 ⟨az,cz,zs,rfl,⟨hz1,hz2⟩,Z⟩;have D3:=D.step H Z.C Z.F;have Z3:=Z.base D.F D.C.held;refine⟨_,_,_,rfl,?_⟩;refine(xP hi Z.C hl 3 (by omega) (by omega)).mono ?_;rintro _ h4 ⟨t,rfl,C4,f4⟩;have D4:=D3.cur H C4 f4;have Z4:=Z3.cur H C4 f4;have Z4':=Z.cur D.C C4 f4;refine⟨_,rfl,fun _=>?_,fun _ _=>Xy hi H hl Z4 (by omega) D4 hd hdb _ _ _⟩;refine(UZ hi D.C hl Z4' hz1 hz2).mono ?_;rintro _ h5 ⟨a5,c5,ys,rfl,hy,Y⟩;have D5:=D.step H Y.C Y.F;exact⟨_,_,_,rfl,fun _=>Xy hi H hl (Y.base D.F D.C.held) hy D5 hd hdb _ _ _⟩
end
variable {ad:Option Addr}{u:Value}
section
variable {s:Nat -> Prop}
theorem zaI(hx:0<=x/\x<65536):(Go.bits .and .u32 x 32==0)=decide (x/32%2≠1):=by
 obtain⟨n,rfl⟩:=Int.eq_ofNat_of_zero_le hx.1;have h1:(BitVec.ofInt 32 (n:Int)).toNat=n:=by rw[BitVec.ofInt_natCast,BitVec.toNat_ofNat];exact Nat.mod_eq_of_lt (by omega)
 have h2:(BitVec.ofInt 32 (32:Int)).toNat=32:=by decide
 have hb:n &&& 32=(n.testBit 5).toNat*32:=by
  apply Nat.eq_of_testBit_eq;intro i;rw[Nat.testBit_and,show(32:Nat)=2^5 from rfl,Nat.testBit_two_pow];by_cases hi:5=i
  ·subst hi;cases h:n.testBit 5 with
   | false=>simp[h]
   | true=>simp[h];decide
  ·cases h:n.testBit 5
   ·simp[hi]
   ·simp only[Bool.toNat_true,Nat.one_mul];rw[Nat.testBit_two_pow];simp[hi]
 have ht:n.testBit 5=decide (n/32%2=1):=by rw[Nat.testBit_eq_decide_div_mod_eq]
 have hand:Go.bits .and .u32 (n:Int) 32=(((n.testBit 5).toNat*32:Nat):Int):=by
  show IntKind.u32.wrap ((BitVec.ofInt 32 (n:Int) &&& BitVec.ofInt 32 (32:Int)).toNat:Int)=_;rw[BitVec.toNat_and,h1,h2,hb,IntKind.wrap_u32];cases n.testBit 5 <;> simp
 rw[hand,ht];by_cases hc:n/32%2=1
 ·have:((n:Int)/32%2=1):=by omega
  simp[hc,this]
 ·have:¬((n:Int)/32%2=1):=by omega
  simp[hc,this]
theorem RH(h:(zR bs).k≠0):(zD bs ds).1=zR bs:=by
 have e:(zId bs).1=zR bs:=BE h;unfold zD;split
 ·simp only;rw[e,BD h]
 ·rfl
theorem YN(hi:qaC (jz oPP s) h)(G:ErrZ h){bm:Nat}(hx:zo h .u8 a bs)(L:bs.length<=65536)(hb:h bm=none)(sb:qaB h h1)
  (hm:h1 bm=some (zX a c bs ((0:Nat):Int) ⟨.pointer none,.slice none 0 0,100000,false,.pointer none,.pointer none⟩ T)){cd:Nat}(hd:zo h .u8 ad ds)(hcd:ds.length<=cd)(hdl:ds.length<=1048576)(hdb:okB ds) :
  zb oPP (jz oPP s) qY #[.pointer (some ⟨bm,0,none⟩),.slice ad ds.length cd] h1 (PF h bm a c bs T (xM bs ds)):=by
 refine FD (vs:=[.pointer (some ⟨bm,0,none⟩),.slice ad ds.length cd]) ⟨rfl,rfl,trivial⟩ (hi.sub sb) ?_;simp only[BZ,Tr.wp,z4,Ex.ev,coerce,toInt_int,za,zc,ze,zd,zf,zx,jA,z9,arith,Cst.val,SV.den,zn,zL,zz,zk,zi,zy,zq,vF,vG,vA,vB,vC,List.getElem?_cons_succ,vD,vE,vI,vH,vJ,List.length_cons,List.length_nil,Nat.zero_add,Nat.add_zero,and_true,if_true,if_false,vK,zu];have eAns:xM bs ds=zA bs (zS (zH bs).2) (zD bs ds).2 (zD bs ds).1:=if_neg (by omega);have hn:=Px (bs:=bs);refine zb.mono (SB hi G.el.es hx (by omega) 0 (by omega) 2 (by omega) ⟨hm,hb,sb⟩) ?_;rintro _ h2 ⟨p2,hp2,rfl,hr2,rfl⟩;have eH:hig bs 2 ⟨((0:Nat):Int),0⟩ 0=zH bs:=rfl;rw[eH]at hr2 ⊢;have ret:∀(hh:qaA) (p':Nat) (K:Int),p'<=8*bs.length->hh bm=some (zX a c bs p' ⟨.pointer none,.slice none 0 0,100000,false,.pointer none,.pointer none⟩ T)->qaB h hh->K≠0->(zD bs ds).1.k=K->PF h bm a c bs T (xM bs ds) (yh K) hh:=by
  intro hh p' K q1 q2 q3 q4 q5;refine⟨K,p',_,[],none,0,rfl,q2,rfl,Part.nil,fun z hz=>(by cases hz),q3,q1,fun _=>?_,fun h=>absurd h q4⟩;rw[eAns,UC (by rw[q5];exact q4),q5]
 have hm2:∀q:Nat,upd h1 bm (zX a c bs q ⟨.pointer none,.slice none 0 0,100000,false,.pointer none,.pointer none⟩ T) bm=some (zX a c bs q ⟨.pointer none,.slice none 0 0,100000,false,.pointer none,.pointer none⟩ T):=fun q=>upd_same
 have s2:∀q:Nat,qaB h (upd h1 bm (zX a c bs q ⟨.pointer none,.slice none 0 0,100000,false,.pointer none,.pointer none⟩ T)):=fun q=>xJ sb hb
 refine⟨_,_,zg,by rw[zg],fun hz=>?_,fun hz=>?_⟩
 ·rw[zg,zP]at hz;have hk:(zH bs).1.k≠0:=by simpa using hz
  have eR:zR bs=(zH bs).1:=Cg hk;rw[zg];exact ret _ p2 _ hp2 (hm2 p2) (s2 p2) hk (by rw[RH (by rw[eR];exact hk),eR])
 ·rw[zg,zP]at hz;have hk:(zH bs).1.k=0:=by simpa using hz
  rw[if_pos hk];have e2:=hr2 hk;have ws:Int.fdiv (zH bs).2 (2^min (Int.toNat 8) IntKind.u32.bits)=(zH bs).2/256:=by rw[show(2:Int)^min (Int.toNat 8) IntKind.u32.bits=256 from rfl,Int.fdiv_eq_ediv_of_nonneg _ (by omega)]
  have t31:(zH bs).2.tmod 31=(zH bs).2%31:=Int.tmod_eq_emod_of_nonneg hn.1;have t16:((zH bs).2/256).tmod 16=(zH bs).2/256%16:=Int.tmod_eq_emod_of_nonneg (by omega);have wq:IntKind.u32.wrap (((zH bs).2/256).tdiv 16)=(zH bs).2/4096:=by
   rw[Int.tdiv_eq_ediv_of_nonneg (by omega),Int.ediv_ediv_of_nonneg (by omega),IntKind.wrap_u32];show(zH bs).2/4096%4294967296=(zH bs).2/4096;clear t31 t16;omega
  have eW:(decide ((decide (((zH bs).2%31 != 0)=true)||(zH bs).2/256%16 != 8)=true)||decide ((zH bs).2/4096>7))=zW (zH bs).2:=by
   unfold zW;simp only[Bool.decide_eq_true]
  rw[ws,t31,t16,wq];simp only[eW];refine⟨fun hw=>?_,fun hw=>?_⟩
  ·have eR:zR bs=⟨(zH bs).1.i,3⟩:=by unfold zR bd;rw[if_pos ⟨hk,hw⟩]
   refine⟨3,(G.sub (s2 p2)).el.es.e3,?_⟩;exact ret _ p2 3 hp2 (hm2 p2) (s2 p2) (by decide) (by rw[RH (by rw[eR];show(3:Int)≠0;decide),eR])
  ·have hw:zW (zH bs).2=false:=by simpa using hw
   have h7:(zH bs).2/4096<=7:=by
    unfold zW at hw;simp only[Bool.or_eq_false_iff,decide_eq_false_iff_not]at hw;omega
   have eR:zR bs=⟨(p2:Int),0⟩:=by unfold zR bd;rw[if_neg (fun e=>by rw[hw]at e;cases e.2),e2]
   rw[zaI hn];refine⟨fun hf=>?_,fun hf=>?_⟩
   ·have hf:¬(zH bs).2/32%2=1:=by simpa using hf
    have eD:zD bs ds=(⟨(p2:Int),0⟩,[]):=by unfold zD;rw[if_neg hf,eR]
    intro _;rw[eAns,eD];have K:=Xk (s:=s) (us:=[]) (au:=none) (cu:=0) hi G hx L p2 hp2 hb (s2 p2) (hm2 p2) hn.1 hn.2 h7 (fun i x hx=>by simp at hx) (Nat.le_refl _) (by simp) Yf;exact K _ _ _
   ·have hf:(zH bs).2/32%2=1:=by simpa using hf
    have eD2:(zD bs ds).2=ds:=by unfold zD;rw[if_pos hf]
    have eD1:(zD bs ds).1=bdK 5 (decide (ds.length=0)||(yQ 1 ds != (zId bs).2)) (zId bs).1:=by unfold zD;rw[if_pos hf]
    refine zb.mono (SB hi G.el.es hx (by omega) p2 hp2 4 (by omega) ⟨hm2 p2,hb,s2 p2⟩) ?_;rintro _ h3 ⟨p3,hp3,rfl,hr3,rfl⟩;have eI:hig bs 4 ⟨(p2:Int),0⟩ 0=zId bs:=by unfold zId;rw[eR]
    rw[eI]at hr3 ⊢;rw[xw];refine⟨_,_,zg,by rw[zg],fun hz=>?_,fun hz=>?_⟩
    ·rw[zg,zP]at hz;have hkI:(zId bs).1.k≠0:=by simpa using hz
     rw[zg];exact ret _ p3 _ hp3 (hm2 p3) (s2 p3) hkI (by rw[eD1,BD hkI])
    ·rw[zg,zP]at hz;have hkI:(zId bs).1.k=0:=by simpa using hz
     rw[if_pos hkI];have e3:=hr3 hkI;have bad:∀hh,hh bm=some (zX a c bs p3 ⟨.pointer none,.slice none 0 0,100000,false,.pointer none,.pointer none⟩ T)->qaB h hh->(decide (ds.length=0)||(yQ 1 ds != (zId bs).2))=true->PF h bm a c bs T (xM bs ds) (yh 5) hh:=fun hh q2 q3 q4=>
      ret hh p3 5 hp3 q2 q3 (by decide) (by rw[eD1];unfold bdK;rw[if_pos ⟨hkI,q4⟩])
     refine⟨fun hl=>?_,fun hl=>?_⟩
     ·have hl:ds.length≠0:=by simpa using hl
      refine zb.mono (Ch (hi.sub (s2 p3)) 1 ⟨by omega,by omega⟩ ad cd ds hdb (hd.sub (s2 p3)) hcd (by omega)) ?_;rintro _ h4 ⟨rfl,s4⟩;refine⟨_,rfl,fun _=>⟨fun hne=>?_,fun heq=>?_⟩⟩
      ·have hne:yQ 1 ds≠(zId bs).2:=by simpa using hne
       refine⟨5,(G.sub ((s2 p3).trans s4)).e5,?_⟩;exact bad h4 (s4 _ _ (hm2 p3)) ((s2 p3).trans s4) (by simp[hne])
      ·have heq:yQ 1 ds=(zId bs).2:=by simpa using heq
       have eD:(zD bs ds).1=⟨(p3:Int),0⟩:=by
        rw[eD1];unfold bdK;rw[if_neg (fun e=>by have:=e.2;simp[heq]at this;exact hl (by simp[this])),e3]
       intro _;rw[eAns,eD,eD2];have K:=Xk (s:=s) (us:=ds) (au:=ad) (cu:=cd) hi G hx L p3 hp3 hb ((s2 p3).trans s4) (s4 _ _ (hm2 p3)) hn.1 hn.2 h7 (hd.sub ((s2 p3).trans s4)) hcd hdl hdb;exact K _ _ _
     ·have hl:ds.length=0:=by simpa using hl
      refine fun _=>⟨fun _=>?_,fun h=>by simp at h⟩
      refine⟨5,(G.sub (s2 p3)).e5,?_⟩;exact bad _ (hm2 p3) (s2 p3) (by simp[hl])
theorem g_impl_Zlib'(hi:qaC (jz oPP s) h)(G:ErrZ h)(E:Cv h)(O:tB.O h v bs)(L:Bf bs)(O2:tB.O h u ds)(L2:Bf ds)(hdb:okB ds) :
  zb oPP (jz oPP s) BL #[v,u] h (PZ h (xM bs ds)):=by
 obtain⟨a,c,rfl,hc,hx⟩:=Part.ints O;obtain⟨a2,c2,rfl,hc2,hx2⟩:=Part.ints O2;have hL:bs.length<=1048576:=L;have hL2:ds.length<=1048576:=L2;refine N9 (vs:=[.slice a bs.length c,.slice a2 ds.length c2]) ⟨rfl,rfl,trivial⟩ hi ?_;simp only[IH,Tr.wp,z4,Ex.ev,coerce,toInt_int,za,zc,ze,zd,zf,z9,arith,Cst.val,SV.den,zn,zL,zz,zk,zi,yF,zy,zq,vF,vG,List.replicate_one,vA,vB,decide_eq_true_eq,decide_eq_false_iff_not,vD,vE,vI,vH,vJ,Nat.zero_add,Nat.add_zero,and_true,if_false,vK,zu];refine⟨fun hgt=>?_,fun hle=>?_⟩
 ·have e:xM bs ds=(7,[],0,()):=if_pos (by omega);rw[e];exact Rp (fun _ _ e=>e)
 intro bm hbm;have K:=YN (s:=s) (T:=64) hi G hx (by omega) hbm (Sub.zC (o:=zX a c bs ((0:Nat):Int) ⟨.pointer none,.slice none 0 0,100000,false,.pointer none,.pointer none⟩ 64) hbm) upd_same hx2 hc2 hL2 hdb;refine zb.mono K ?_;rintro _ h3 ⟨KK,p,m,xs,ao,co,rfl,hb3,eo,P3,N3,s3,hp,hbad,hgood⟩;obtain⟨_,g1,_,g3,_⟩:=yO hb3;rw[eo]at g3;refine⟨_,zg,by rw[zg],fun hz=>?_,fun hz=>?_⟩
 ·rw[zg,zP]at hz;have hk1:KK≠0:=by simpa using hz
  rw[hbad hk1,zg,QZ hk1];refine⟨_,_,_,g3,?_⟩;refine zb.mono (MT (hi.sub s3) (E.sub s3)) ?_;rintro _ h4 ⟨rfl,s4⟩;refine⟨_,rfl,fun pp hpp=>?_,Od (P3.sub s4) N3 (s3.trans s4)⟩;obtain rfl:=List.mem_singleton.1 hpp;simp only[Ex.ev,coerce,zc,ze,zd,zf,vA,vB,Nat.zero_add,Nat.add_zero,zu,zf];exact xF s4 g3
 ·rw[zg,zP]at hz;have hk1:KK=0:=by simpa using hz
  rw[hgood hk1];refine⟨_,_,_,g3,_,g1,?_⟩;have w:IntKind.i64.wrap ((p:Int).tdiv 8)=((p/8:Nat):Int):=by rw[Int.tdiv_eq_ediv_of_nonneg (by omega),i64_in _ (by omega)];omega
  rw[w];exact Od P3 N3 s3
end
section
theorem Vb(hi:qaC S h){more:List Int}(hx:zo h .u8 a more)(hl:more.length<=1048576)(hw:∀x∈more,0<=x/\x<=255)(i:Nat)(h1:i<=100000) :
  zb oPP S BK #[.slice a more.length c,.int .i64 i] h (fun v h'=>(∃x,v=.int .i64 x/\0<=x/\x<=255)/\h'=h):=by
 refine NH (vs:=[.slice a more.length c,.int .i64 i]) ⟨rfl,rfl,trivial⟩ hi ?_;simp only[IJ,Tr.wp,Ex.ev,coerce,toInt_int,za,zc,ze,zd,zf,zM,z9,arith,Cst.val,SV.den,zy,zq,vA,vB,decide_eq_true_eq,decide_eq_false_iff_not,vI,vH,and_true];refine⟨fun hlt=>?_,fun hge=>?_⟩
 ·have hi3:i<more.length:=by omega
  obtain⟨g1,g2⟩:=hx.cell (List.getElem?_eq_getElem hi3);have hb:=hw _ (List.getElem_mem hi3);refine⟨by simpa using g2,by omega,hlt,more[i],by simpa[add_add]using g1,?_⟩;rw[i64_in _ (by omega)];exact⟨_,rfl,hb.1,hb.2⟩
 ·rw[i64_in ((i:Int)*47) (by omega),i64_in _ (by omega),Int.tmod_eq_emod_of_nonneg (by omega)];exact⟨_,rfl,by omega,by omega⟩
end
variable {a0:Option Addr}{c0:Nat}
section
section
theorem Lr(hi:qaC S h)(H1:zo h .u8 a1 xs)(H2:zo h .u8 a2 ys)(hc:ys.length<=c2)(p:xs <+: ys) :
  zb oPP S qH #[.slice a1 xs.length c1,.slice a2 ys.length c2] h (fun v h'=>v=.bool true/\h'=h):=by
 have hl:=p.length_le;have ht:ys.take xs.length=xs:=List.prefix_iff_eq_take.1 p▸rfl;refine I5 (vs:=[.slice a1 xs.length c1,.slice a2 ys.length c2]) ⟨rfl,rfl,trivial⟩ hi ?_;simp only[Ea,Tr.wp,Ex.ev,coerce,toInt_int,za,zc,ze,zd,xW,jI,z9,Cst.val,SV.den,vA,vB,vC,decide_eq_true_eq,decide_eq_false_iff_not,vD,vE,vI,vH,and_true];obtain⟨a',e,H'⟩:=wG H2 (lo:=0) (hi:=xs.length) (m:=c2) (Nat.zero_le _) hl (by omega);rw[List.drop_zero,Nat.sub_zero,ht]at e H';rw[Int.toNat_natCast,e];simp only[zc,zd];exact⟨fun _=>⟨by omega,by omega,⟨xs,rfl,H'.cells (c:=0),xs,rfl,H1.cells (c:=0),fun _=>by simp⟩,xs,rfl,H1.cells (c:=0),xs,rfl,H'.cells (c:=0),fun _=>by simp⟩,fun hn=>absurd (by omega) hn⟩
end
section
variable {s:Nat -> Prop}
theorem zaJ(hi:qaC (jz oPP s) h)(G:ErrZ h)(E:Cv h){code more:List Int}(hx0:zo h .u8 a0 code)(hl0:code.length<=1048576)(hx1:zo h .u8 a1 more)(hl1:more.length<=1048576)(hw1:∀x∈more,0<=x/\x<=255)(s1:qaB h h1)(K0 K1 K2:Kt)(e2 e3 e4 e5 e6 e7 e8 e9 e10 e11 e12 e13 e14 e15 e16 e17 e18 e19:Value) :
  fqZ.wp oPP (jz oPP s) yb (fun v h'=>v=.bool true) [.slice a0 code.length c0,.slice a1 more.length c1,e2,e3,e4,e5,e6,e7,e8,e9,e10,e11,e12,e13,e14,e15,e16,e17,e18,e19] h1 [K0,K1,K2]:=by
 simp only[fqZ,Tr.wp,z4,Ex.ev,coerce,toInt_int,za,zc,ze,zd,jA,xW,jI,z9,arith,Cst.val,SV.den,zn,zL,zz,zk,zi,zy,vF,vG,vA,vB,vC,List.getElem?_cons_succ,decide_eq_true_eq,vD,vE,vI,vH,vJ,List.length_cons,List.length_nil,Nat.zero_add,if_true,if_false,vK];have i1:=hi.sub s1;refine(SL i1 (hx0.sub s1) hl0).mono ?_;rintro _ h2 ⟨az,cz,zs,ad,cd,ds,rfl,hz,hd,hdb,OZ,OD,s2⟩;have i2:=i1.sub s2;obtain⟨_,_,ez,hcz,hz2⟩:=Part.ints OZ;cases ez
 refine⟨_,_,_,_,_,_,rfl,fun _=>by simp,fun hg=>?_⟩;have hz3:1<=zs.length/\zs.length<=3000:=by
  simp at hg;have:=List.length_pos_iff.2 hg.2;omega
 refine(Vb i2 (hx1.sub (s1.trans s2)) hl1 hw1 1 (by omega)).mono ?_;rintro _ hq ⟨⟨x,rfl,x0,x1⟩,rfl⟩;obtain⟨q,hq0,hq1⟩:∃q:Nat,x.tmod (zs.length:Int)=q/\q<zs.length:=by
  rw[Int.tmod_eq_emod_of_nonneg x0];have g1:=Int.emod_nonneg x (show(zs.length:Int)≠0 by omega);have g2:=Int.emod_lt_of_pos x (show(0:Int)<zs.length by omega);exact⟨(x%zs.length).toNat,by omega,by omega⟩
 have hz0:(zs.length:Int)≠0:=by omega
 refine⟨_,rfl,by simpa using hz0,?_⟩;rw[hq0];refine⟨by omega,by omega,?_⟩;rw[Int.toNat_natCast];have G2:=G.sub (s1.trans s2);have E2:=E.sub (s1.trans s2);obtain⟨a3,c3,e3,P3,_,_⟩:=Part.FA (h0:=fun _=>none) OZ (fun y _=>rfl) (n:=q) (m:=cz) (by omega) (by omega) (Nat.le_refl _);rw[e3];have lt3:(zs.take q).length<=3000:=by rw[List.length_take];omega
 have LZ:Bf zs:=show zs.length<=1048576 by omega
 have LD:Bf ds:=show ds.length<=1048576 by omega
 refine zb.mono (g_impl_Zlib' i2 G2 E2 (bs:=zs.take q) P3 (show(zs.take q).length<=1048576 by omega) OD LD hdb) ?_;rintro _ h4 ⟨O4,N4,s4⟩;obtain⟨u4,rfl,Q4⟩:=CK O4;obtain⟨a4,c4,rfl,_,g4⟩:=Part.ints (show Part .u8 h4 u4 _ from Q4);refine⟨_,_,_,_,_,rfl,?_⟩;have i4:=i2.sub s4;have OZ4:tB.O h4 (.slice az zs.length cz) zs:=Ty.kN OZ s4;have OD4:tB.O h4 (.slice ad ds.length cd) ds:=Ty.kN OD s4;refine zb.mono (g_spec_Zlib' i4 OZ4 LZ OD4 LD) ?_;rintro _ h5 ⟨O5,N5,s5⟩;obtain⟨u5,rfl,Q5⟩:=CK O5;obtain⟨a5,c5,rfl,hc5,g5⟩:=Part.ints (show Part .u8 h5 u5 _ from Q5);refine⟨_,_,_,_,_,rfl,?_⟩;have i5:=i4.sub s5;have pre:(xM (zs.take q) ds).2.1 <+: (xM zs ds).2.1:=by
  have:=ZW (bs:=zs.take q) (ex:=zs.drop q) (ds:=ds) (by rw[List.take_append_drop];omega);rwa[List.take_append_drop]at this
 refine(Lr i5 (g4.sub s5) g5 hc5 pre).mono ?_;rintro _ hr ⟨rfl,er⟩;subst er;refine⟨_,rfl,fun _=>?_,fun e=>by cases e⟩;have s15:=(s1.trans s2).trans (s4.trans s5);refine zb.mono (g_impl_Zlib' i5 (G.sub s15) (E.sub s15) (Ty.kN OZ4 s5) LZ (Ty.kN OD4 s5) LD hdb) ?_;rintro _ h6 ⟨O6,N6,s6⟩;obtain⟨u6,rfl,Q6⟩:=CK O6;obtain⟨a6,c6,rfl,_,g6⟩:=Part.ints (show Part .u8 h6 u6 _ from Q6);refine⟨_,_,_,_,_,rfl,?_⟩;have i6:=i5.sub s6;refine zb.mono (g_spec_Zlib' i6 (Ty.kN (Ty.kN OZ4 s5) s6) LZ (Ty.kN (Ty.kN OD4 s5) s6) LD) ?_;rintro _ h7 ⟨O7,N7,s7⟩;obtain⟨u7,rfl,Q7⟩:=CK O7;obtain⟨a7,c7,rfl,_,g7⟩:=Part.ints (show Part .u8 h7 u7 _ from Q7);refine⟨_,_,_,_,_,rfl,?_⟩;refine(HI (i6.sub s7) (g6.sub s7) g7).mono ?_;rintro _ hr2 ⟨rfl,er⟩;exact⟨_,rfl,by simp[jv]⟩
theorem wf_i64{n:Int}(h0:0<=n)(h1:n<=1000000):(Lit.int .i64 n).wf=true:=by
 have e1:IntKind.i64.min = -9223372036854775808:=by rfl
 have e2:IntKind.i64.max=9223372036854775807:=by rfl
 simp[Lit.wf,e1,e2];omega
theorem Vd(hi:qaC S h)(O:tB.O h v bs)(hl:65536<bs.length)(n:Int)(O2:tB.O h u ds) :
  zb oPP S jJ #[v,.int .i64 n,u] h (fun v h'=>(∃a c,v=.agg #[.int .i64 7,.slice a 0 c,.int .i64 0])/\qaB h h'):=by
 obtain⟨a,c,rfl,hc,hx⟩:=Part.ints O;obtain⟨a2,c2,rfl,hc2,hx2⟩:=Part.ints O2;refine Dp (vs:=[.slice a bs.length c,.int .i64 n,.slice a2 ds.length c2]) ⟨rfl,rfl,rfl,trivial⟩ hi ?_;simp only[Bz,Tr.wp,z4,Ex.ev,coerce,toInt_int,za,zc,ze,zd,zf,zx,jA,z9,Cst.val,SV.den,zn,zL,zz,zk,zi,yF,zy,zq,vF,vG,List.replicate_one,vA,vB,decide_eq_true_eq,decide_eq_false_iff_not,vD,vE,vI,vH,vJ,Nat.zero_add,Nat.add_zero,and_true,if_false,vK,zu];exact⟨fun _=>⟨⟨_,_,rfl⟩,fun _ _ e=>e⟩,fun hle=>absurd (by omega) hle⟩
theorem zaK(hi:qaC (jz oPP s) h)(G:ErrZ h)(E:Cv h){code more:List Int}(hx0:zo h .u8 a0 code)(hl0:code.length<=1048576)(hx1:zo h .u8 a1 more)(hl1:more.length<=1048576)(hw1:∀x∈more,0<=x/\x<=255)(s1:qaB h h1)
  {ab ad a9:Option Addr}{cb cd c9:Nat}(OB:tB.O h1 (.slice ab bs.length cb) bs)(lb:1<=bs.length/\bs.length<=3000)(OD:tB.O h1 (.slice ad ds.length cd) ds)(ld:ds.length<=100){n:Int}(n0:0<=n)(n1:n<=32769){X:kT}(hX:X=zK bs n ds)(g9:zo h1 .u8 a9 X.2.1)(K0 K1 K2:Kt)(e5 e6 e7 e11 e12 e13 e14 e15 e16 e17 e18 e19:Value) :
  fqY.wp oPP (jz oPP s) yb (fun v h'=>v=.bool true) [.slice a0 code.length c0,.slice a1 more.length c1,.slice ab bs.length cb,.int .i64 n,.slice ad ds.length cd,e5,e6,e7,.int .i64 X.1,.slice a9 X.2.1.length c9,.int .i64 X.2.2.1,e11,e12,e13,e14,e15,e16,e17,e18,e19] h1 [K0,K1,K2]:=by
 simp only[fqY,Tr.wp,z4,Ex.ev,coerce,toInt_int,za,zc,ze,zd,jA,xW,jI,z9,arith,Cst.val,SV.den,zn,zL,zz,zk,zi,zy,vF,vG,vA,vB,vC,List.getElem?_cons_succ,decide_eq_true_eq,decide_eq_false_iff_not,vD,vE,vI,vH,vJ,Nat.zero_add,if_false,vK];have i1:=hi.sub s1;have fin:∀ {hh:qaA},qaB h1 hh->∀(e2 e3 e4 e5 e6 e7 e8 e9 e10 e11 e12 e13 e14 e15 e16 e17 e18 e19:Value),fqZ.wp oPP (jz oPP s) yb (fun v h'=>v=.bool true) [.slice a0 code.length c0,.slice a1 more.length c1,e2,e3,e4,e5,e6,e7,e8,e9,e10,e11,e12,e13,e14,e15,e16,e17,e18,e19] hh [K0,K1,K2]:=fun sh=>
  zaJ hi G E hx0 hl0 hx1 hl1 hw1 (s1.trans sh) K0 K1 K2
 refine⟨fun h8 b3 hb3=>?_,fun _ _=>fin (fun _ _ e=>e) _ _ _ _ _ _ _ _ _ _ _ _ _ _ _ _ _ _⟩;have h8:X.1=1:=by simpa using h8
 obtain⟨q0,q1⟩:=WK (bs:=bs) (n:=n) (ds:=ds) (by rw[<-hX];exact h8);rw[<-hX]at q0 q1;obtain⟨q,hq,hq2⟩:∃q:Nat,IntKind.i64.wrap ((IntKind.i64.wrap (X.2.2.1+7)).tdiv 8)=q/\(q:Int)=(X.2.2.1+7)/8:=by
  rw[i64_in (X.2.2.1+7) (by omega),Int.tdiv_eq_ediv_of_nonneg (by omega),i64_in _ (by omega)];exact⟨((X.2.2.1+7)/8).toNat,by omega,by omega⟩
 have hql:q<=bs.length:=by omega
 obtain⟨_,_,eb,hcb,hb9⟩:=Part.ints OB;cases eb
 rw[hq];refine⟨by omega,by omega,?_⟩;rw[Int.toNat_natCast];have t3:qaB h1 (upd h1 b3 (.cells #[] 5)):=Sub.zC hb3;have P0:Part .u8 (upd h1 b3 (.cells #[] 5)) (.slice (some ⟨b3,0,none⟩) 0 0) []:=(Own.made (k:=.u8) []).part;obtain⟨a4,e4,H4⟩:=wG hb9 (lo:=0) (hi:=q) (m:=cb) (Nat.zero_le _) hql (by omega);rw[List.drop_zero,Nat.sub_zero]at e4 H4;rw[e4];have lt4:(bs.take q).length=q:=by rw[List.length_take];omega
 refine yA i1 t3 P0 (New.of hb3) (H4.sub t3) (by simp only[List.length_nil];omega) fun v' h2 o2 n2 s2 _ _=>?_
 obtain⟨a5,c5,rfl,_,_⟩:=o2.ints;simp only[zd,zc,ze];rw[vH]at o2 n2 ⊢;refine yA i1 s2 o2 n2 (hx1.sub (s1.trans s2)) (by omega) fun v' h3 o3 n3 s3 _ _=>?_
 obtain⟨C,hC⟩:∃C,C=bs.take q++more:=⟨_,rfl⟩;rw[<-hC]at o3;have lC:C.length=q+more.length:=by rw[hC,List.length_append,lt4]
 obtain⟨a6,c6,rfl,_,_⟩:=o3.ints;simp only[zd,zc,ze];have i3:=i1.sub s3;have s13:=s1.trans s3;by_cases hbig:65536<C.length
 ·refine zb.mono (Vd i3 (bs:=C) o3 hbig n (Ty.kN OD s3)) ?_;rintro _ h4 ⟨⟨a7,c7,rfl⟩,s4⟩;exact⟨_,_,_,_,_,rfl,fun hm=>absurd hm (by omega),fun _ _=>⟨fun e=>e.elim,fun _ _=>fin (s3.trans s4) _ _ _ _ _ _ _ _ _ _ _ _ _ _ _ _ _ _⟩⟩
 refine zb.mono (BC i3 (G.sub s13).el (E.sub s13) (bs:=C) o3 (show C.length<=1048576 by omega) n (wf_i64 n0 (by omega)) (Ty.kN OD s3) (show ds.length<=1048576 by omega)) ?_;rintro _ h4 ⟨O4,N4,s4⟩;obtain⟨u4,rfl,Q4⟩:=Ef O4;obtain⟨a7,c7,rfl,_,g7⟩:=Part.ints (show Part .u8 h4 u4 _ from Q4);have s14:=s3.trans s4;refine⟨_,_,_,_,_,rfl,fun hm=>?_,fun _ _=>⟨fun e=>e.elim,fun _ _=>fin s14 _ _ _ _ _ _ _ _ _ _ _ _ _ _ _ _ _ _⟩⟩;have eA:zK C n ds=X:=by
  rw[hC,hX];exact(YJ (by rw[<-hX];exact h8) (by rw[<-hX];exact hq2) (by rw[<-hC];omega)).2
 rw[eA]at g7 ⊢;refine⟨fun _=>?_,fun e=>by simp[h8]at e⟩;refine(HI (i1.sub s14) g7 (g9.sub s14)).mono ?_;rintro _ hr ⟨rfl,er⟩;subst er;refine⟨_,rfl,fun _=>⟨fun e=>by simp at e,fun _ _=>fin s14 _ _ _ _ _ _ _ _ _ _ _ _ _ _ _ _ _ _⟩⟩
theorem Qe(hi:qaC (jz oPP s) h)(G:ErrZ h)(E:Cv h)(a0:Option Addr)(c0:Nat)(code:List Int)(hx0:zo h .u8 a0 code)(hl0:code.length<=maxLen)(hw0:∀x∈code,(Lit.int .u8 x).wf=true)(a1:Option Addr)(c1:Nat)(more:List Int)(hx1:zo h .u8 a1 more)(hl1:more.length<=maxLen)(hw1:∀x∈more,(Lit.int .u8 x).wf=true) :
  zb oPP (jz oPP s) Cz #[.slice a0 code.length c0,.slice a1 more.length c1] h (fun v h'=>v=.bool true):=by
 refine G0 (vs:=[.slice a0 code.length c0,.slice a1 more.length c1]) ⟨rfl,rfl,trivial⟩ hi ?_;rw[CF];simp only[Tr.wp,z4,Ex.ev,coerce,toInt_int,za,zc,ze,zd,jA,xW,jI,z9,arith,Cst.val,SV.den,zn,zL,zz,zk,zi,zy,vF,vG,vA,vB,vC,List.getElem?_cons_succ,decide_eq_true_eq,vD,vE,vI,vH,vJ,List.length_cons,List.length_nil,Nat.zero_add,if_true,if_false,vK];refine⟨fun _=>trivial,fun hsm=>?_⟩;have hl:code.length<=1048576/\more.length<=1048576:=by simp at hsm;omega
 have hwm:∀x∈more,0<=x/\x<=255:=fun x hx=>by
  have h:=hw1 x hx;have e1:IntKind.u8.min=0:=by rfl
  have e2:IntKind.u8.max=255:=by rfl
  simp[Lit.wf,e1,e2]at h;omega
 refine(NK hi hx0 hl.1).mono ?_;rintro _ h1 ⟨ab,cb,bs,ad,cd,ds,n,rfl,hb,hd,n0,n1,OB,OD,s1⟩;obtain⟨_,_,eb,hcb,_⟩:=Part.ints OB;cases eb
 refine⟨_,_,_,_,_,_,_,rfl,fun _=>by simp,fun hg=>?_⟩;have lb:1<=bs.length/\bs.length<=3000:=by
  simp at hg;have:=List.length_pos_iff.2 hg.2;omega
 have LB:Bf bs:=show bs.length<=1048576 by omega
 have LD:Bf ds:=show ds.length<=1048576 by omega
 have wn:=wf_i64 n0 (show n<=1000000 by omega);have i1:=hi.sub s1;refine zb.mono (BC i1 (G.sub s1).el (E.sub s1) OB LB n wn OD LD) ?_;rintro _ h2 ⟨O2,N2,s2⟩;obtain⟨X,hX⟩:∃X,X=zK bs n ds:=⟨_,rfl⟩;rw[<-hX]at O2;obtain⟨u2,rfl,Q2⟩:=Ef O2;obtain⟨a2,c2,rfl,_,g2⟩:=Part.ints (show Part .u8 h2 u2 _ from Q2);refine⟨_,_,_,_,_,rfl,?_⟩;have i2:=i1.sub s2;refine zb.mono (Fi i2 (Ty.kN OB s2) LB n wn (Ty.kN OD s2) LD) ?_;rintro _ h3 ⟨O3,N3,s3⟩;rw[<-hX]at O3;obtain⟨u3,rfl,Q3⟩:=Ef O3;obtain⟨a3,c3,rfl,hc3,g3⟩:=Part.ints (show Part .u8 h3 u3 _ from Q3);refine⟨_,_,_,_,_,rfl,?_⟩;have s13:=s1.trans (s2.trans s3);refine(Vb (hi.sub s13) (hx1.sub s13) hl.2 hwm 0 (by omega)).mono ?_;rintro _ hq ⟨⟨x,rfl,x0,x1⟩,rfl⟩;obtain⟨q,hq0,hq1⟩:∃q:Nat,x.tmod (bs.length:Int)=q/\q<bs.length:=by
  rw[Int.tmod_eq_emod_of_nonneg x0];have g1:=Int.emod_nonneg x (show(bs.length:Int)≠0 by omega);have g2:=Int.emod_lt_of_pos x (show(0:Int)<bs.length by omega);exact⟨(x%bs.length).toNat,by omega,by omega⟩
 have hb0:(bs.length:Int)≠0:=by omega
 refine⟨_,rfl,by simpa using hb0,?_⟩;rw[hq0];refine⟨by omega,by omega,?_⟩;rw[Int.toNat_natCast];have OB3:tB.O hq (.slice ab bs.length cb) bs:=Ty.kN (Ty.kN OB s2) s3;have OD3:tB.O hq (.slice ad ds.length cd) ds:=Ty.kN (Ty.kN OD s2) s3;obtain⟨a4,c4,e4,P4,_,_⟩:=Part.FA (h0:=fun _=>none) OB3 (fun y _=>rfl) (n:=q) (m:=cb) (by omega) (by omega) (Nat.le_refl _);rw[e4];have lt4:(bs.take q).length<=3000:=by rw[List.length_take];omega
 refine zb.mono (BC (hi.sub s13) (G.sub s13).el (E.sub s13) (bs:=bs.take q) P4 (show(bs.take q).length<=1048576 by omega) n wn OD3 LD) ?_;rintro _ h5 ⟨O5,N5,s5⟩;obtain⟨u5,rfl,Q5⟩:=Ef O5;obtain⟨a5,c5,rfl,_,g5⟩:=Part.ints (show Part .u8 h5 u5 _ from Q5);have pre:(zK (bs.take q) n ds).2.1 <+: X.2.1:=by
  have:=YI (bs:=bs.take q) (ex:=bs.drop q) (n:=n) (ds:=ds) (by rw[List.take_append_drop];omega);rw[List.take_append_drop]at this;rw[hX];exact this
 refine⟨_,_,_,_,_,rfl,?_⟩;have s15:=s13.trans s5;refine⟨fun _=>?_,fun e=>by simp at e⟩;refine(HI (hi.sub s15) (g2.sub (s3.trans s5)) (g3.sub s5)).mono ?_;rintro _ hr ⟨rfl,er⟩;subst er;refine⟨_,rfl,fun _=>?_,fun e=>by simp at e⟩;refine(Lr (hi.sub s15) g5 (g3.sub s5) hc3 pre).mono ?_;rintro _ hr2 ⟨rfl,er⟩;subst er;exact⟨_,rfl,fun _=>⟨fun e=>by simp at e,fun _=>zaK hi G E hx0 hl.1 hx1 hl.2 hwm s15 (Ty.kN OB3 s5) lb (Ty.kN OD3 s5) hd n0 n1 hX (g3.sub s5) _ _ _ _ _ _ _ _ _ _ _ _ _ _ _⟩⟩
end
end
end
end Go.Proofs.YtopmdepgpabipaaGreatDoor
