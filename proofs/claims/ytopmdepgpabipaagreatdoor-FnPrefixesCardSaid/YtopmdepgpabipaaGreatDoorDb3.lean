import Derived.Laws.Append
import Derived.IntWalk
import Derived.Laws.Bits64b
import Derived.Test.YtopmdepgpabipaaGreatDoorChecked
import Derived.Test.YtopmdepgpabipaaGreatDoorRows
import Derived.WalkKit
import Derived.ProofKit
import Derived.OpenShut
import Derived.ShutString
import Derived.ChangeOld
import Derived.Below
import Derived.Carry
import Derived.SizedLaws
import Derived.Lib.SmallJoins
import Derived.Test.YtopmdepgpabipaaGreatDoorDb2
set_option maxRecDepth 100000
set_option maxHeartbeats 8000000
set_option linter.unusedVariables false
set_option linter.unusedSimpArgs false
set_option linter.unusedSectionVars false
section
namespace Go.Eng
open Go
def zo(h:Heap)(k:IntKind)(a:Option Addr)(xs:List Int):Prop:=∀(i:Nat) x,xs[i]? = some x->∃ad,a=some ad/\zj h (ad.add i)=some (.int k x)
def ints(k:IntKind)(xs:List Int):Array Value:=(xs.map (Value.int k)).toArray
variable {k:IntKind}{n:Int}
theorem toInt_int:toInt (.int k n)=n:=rfl
theorem za{b:Bool}:toBool (.bool b)=b:=rfl
variable {a:Option Addr}{c l:Nat}
theorem zc:slL (.slice a l c)=l:=rfl
theorem ze:slC (.slice a l c)=c:=rfl
theorem zd:slA (.slice a l c)=a:=rfl
theorem zf{a:Addr}:xz (.pointer (some a))=a:=rfl
theorem zx:kZ (.pointer a)=a:=rfl
theorem zM:x7 (.slice a l c)=a.isNone:=by cases a <;> rfl
theorem xb:x7 (.pointer a)=a.isNone:=by cases a <;> rfl
variable {d:Nat}
theorem xW:qN d (.int k n)=n.toNat:=rfl
theorem jI:qN d (.tuple #[])=d:=rfl
theorem xg{p:Prop}[Decidable p]{c:Bool}:(if p then Value.bool c else Value.bool false)=.bool (decide p&&c):=by by_cases h:p <;> simp[h]
theorem jA{p:Prop}[Decidable p]{c:Bool}:(if p then Value.bool true else Value.bool c)=.bool (decide p||c):=by by_cases h:p <;> simp[h]
variable {xs:List Int}{S:Shared}
section
variable {h:Heap}{b:Nat}{T:TypeId}{o:Obj}
theorem zo.cell(H:zo h k a xs){i:Nat}{x:Int}(hx:xs[i]? = some x):zj h ((a.getD default).add i)=some (.int k x)/\a.isSome=true:=by
 obtain⟨ad,rfl,h2⟩:=H i x hx;exact⟨h2,rfl⟩
theorem Tt{ad:Addr}{v:Value}(hc:zj h ad=some v)(hb:h b=none):zj (upd h b o) ad=some v:=by
 have:ad.block≠b:=fun e=>jc hc (e▸hb)
 unfold zj upd at *;simpa[this]using hc
theorem zo.upd(H:zo h k a xs)(hb:h b=none):zo (Eng.upd h b o) k a xs:=fun i x hx=>by
 obtain⟨ad,h1,h2⟩:=H i x hx;exact⟨ad,h1,Tt h2 hb⟩
theorem yR(n:Nat):(⟨b,0,none⟩:Addr).add n=⟨b,n,none⟩:=by
 unfold Addr.add;split
 ·rename_i h;subst h;rfl
 ·simp
theorem Tu{c:Array Value}{n:Nat}:zj (upd h b (.cells c T)) ((⟨b,0,none⟩:Addr).add n)=c[n]? := by
 rw[yR];simp[zj,upd]
theorem JU(hi:Inv S h)(hb:h b=none):¬S b:=fun hs=>hi b hs hb
theorem Inv.upd(hi:Inv S h):Inv S (Eng.upd h b o):=fun x hx hn=>by
 unfold Eng.upd at hn;split at hn
 ·cases hn
 ·exact hi x hx hn
theorem zo.new:zo (Eng.upd h b (.cells (ints k xs) T)) k (some ⟨b,0,none⟩) xs:=fun i x hx=>⟨_,rfl,by rw[Tu];simp[ints,hx]⟩
theorem AJ(n:Nat):yl n (([.int k 0]:List Value).toArray)=ints k (List.replicate n 0):=by
 apply Array.ext_getElem?;intro i;simp only[yl,ints,Array.getElem?_map,List.getElem?_toArray,List.getElem?_map,List.getElem?_replicate];by_cases hi:i<n
 ·simp[hi,Nat.mod_one]
 ·simp[hi]
theorem ints_set(xs:List Int)(n:Nat)(x:Int):(ints k xs).setIfInBounds n (.int k x)=ints k (xs.set n x):=by
 simp[ints,List.map_set]
theorem Tv(xs:List Int):(ints k xs).size=xs.length:=by simp[ints]
end
end Go.Eng
namespace Go.Eng
open Go
variable {h:Heap}{b:Nat}{o:Obj}
theorem Sub.zC(hb:h b=none):Sub h (upd h b o):=fun x y hx=>by
 have:x≠b:=fun e=>by rw[e,hb]at hx;cases hx
 simp[upd,this,hx]
variable {S:Shared}{h':Heap}
theorem Inv.sub(hi:Inv S h)(hs:Sub h h'):Inv S h':=fun b hb hn=>by
 cases hh:h b with
 | none=>exact hi b hb hh
 | some o=>rw[hs b o hh]at hn;cases hn
variable {v:Value}
theorem xF(hs:Sub h h'){ad:Addr}(hc:zj h ad=some v):zj h' ad=some v:=by
 unfold zj at *;cases hh:h ad.block with
 | none=>rw[hh]at hc;cases hc
 | some o=>rw[hs _ o hh];rw[hh]at hc;exact hc
variable {k:IntKind}{a:Option Addr}{xs:List Int}
theorem zo.sub(H:zo h k a xs)(hs:Sub h h'):zo h' k a xs:=fun i x hx=>by
 obtain⟨ad,h1,h2⟩:=H i x hx;exact⟨ad,h1,xF hs h2⟩
theorem xw{o o':Obj}:upd (upd h b o) b o'=upd h b o':=by
 funext x;unfold upd;by_cases hx:x=b <;> simp[hx]
theorem qR(hb:h b=some o):upd h b o=h:=by
 funext x;unfold upd;by_cases hx:x=b
 ·subst hx;simp[hb]
 ·simp[hx]
theorem upd_same:upd h b o b=some o:=by simp[upd]
theorem upd_ne{b x:Nat}(hx:x≠b):upd h b o x=h x:=by simp[upd,hx]
def zh:Value->Option Nat
 | .slice (some a) _ _=>some a.block
 | _=>none
def Own(k:IntKind)(h:Heap)(v:Value)(xs:List Int):Prop:=
 ∃b sp T,v=.slice (some ⟨b,0,none⟩) xs.length (xs.length+sp.length)/\h b=some (.cells (ints k (xs++sp)) T)
def New(h0:Heap)(v:Value):Prop:=∀b,zh v=some b->h0 b=none
variable {T:TypeId}
section
variable {h0 : Heap}{ys : List Int}
theorem OJ{sp:List Int}{i:Nat}{x:Int}(hx:xs[i]? = some x):(Eng.ints k (xs++sp))[i]? = some (.int k x):=by
 have:(xs++sp)[i]? = some x:=by rw[List.getElem?_append_left (List.getElem?_eq_some_iff.1 hx).1];exact hx
 simp only[Eng.ints,List.getElem?_toArray,List.getElem?_map,this];rfl
theorem Own.ints(H:Own k h v xs):∃a c,v=.slice a xs.length c/\zo h k a xs:=by
 obtain⟨b,sp,T,rfl,hb⟩:=H;refine⟨_,_,rfl,fun i x hx=>⟨_,rfl,?_⟩⟩;rw[yR];simp only[zj,hb];exact OJ hx
theorem Own.keep(H:Own k h v xs)(hk:∀b,zh v=some b->h' b=h b):Own k h' v xs:=by
 obtain⟨b,sp,T,rfl,hb⟩:=H;exact⟨b,sp,T,rfl,by rw[hk b rfl];exact hb⟩
theorem Own.made(xs:List Int):Own k (upd h b (.cells (Eng.ints k xs) T)) (.slice (some ⟨b,0,none⟩) xs.length xs.length) xs:=
 ⟨b,[],T,by simp,by simp[upd]⟩
theorem New.of{b l c:Nat}(hb:h0 b=none):New h0 (.slice (some ⟨b,0,none⟩) l c):=fun x hx=>by
 cases hx;exact hb
def kM(zs:List Int)(n:Nat)(ys:List Int):List Int:=zs.take n++ys++zs.drop (n+ys.length)
theorem wW{b off:Nat}{K:Heap->Prop}(hs:¬S b):∀(ys:List Int) (i:Nat) (h:Heap) (zs:List Int),h b=some (.cells (Eng.ints k zs) T)->off+i+ys.length<=zs.length ->
  K (upd h b (.cells (Eng.ints k (kM zs (off+i) ys)) T))->yk S ⟨b,off,none⟩ i (ys.map (Value.int k)) h K:=by
 have ea:∀j,(⟨b,off,none⟩:Addr).add j=⟨b,off+j,none⟩:=fun j=>by
  unfold Addr.add;split
  ·rename_i h0;subst h0;rfl
  ·rfl
 intro ys;induction ys with
 | nil=>
  intro i h zs hb _ hK;have e:kM zs (off+i) []=zs:=by simp[kM]
  rw[e,qR hb]at hK;exact hK
 | cons y r ih=>
  intro i h zs hb hl hK;simp only[List.length_cons]at hl;refine⟨⟨⟨.int k (zs[off+i]'(by omega)),?_⟩,?_,?_⟩,?_⟩
  ·rw[ea];simp[zj,hb,Eng.ints]
  ·rw[ea];simp[yN,hb]
  ·rw[ea];exact hs
  ·have e1:zQ h ((⟨b,off,none⟩:Addr).add i) (.int k y)=upd h b (.cells (Eng.ints k (zs.set (off+i) y)) T):=by
    rw[ea];funext x;unfold zQ upd;by_cases hx:x=b
    ·subst hx;simp[hb,ints_set]
    ·simp[hx]
   rw[e1];refine ih (i+1) _ (zs.set (off+i) y) (by simp[upd]) (by simp;omega) ?_;rw[xw];have e2:kM (zs.set (off+i) y) (off+(i+1)) r=kM zs (off+i) (y::r):=by
    unfold kM;rw[show off+(i+1)=off+i+1 by omega,List.take_add_one,List.take_set_of_le (by omega),List.drop_set_of_lt (by omega)];simp only[List.length_cons];rw[List.getElem?_set_self (by omega)];simp[show off+i+1+r.length=off+i+(r.length+1) by omega]
   rw[e2];exact hK
theorem IC{n:Int}:Bt (.int k n):=⟨rfl,by simp,by simp⟩
theorem LI(n:Nat):Builtin.zeroCells ([.int k 0]:List Value).toArray n=Eng.ints k (List.replicate n 0):=by
 have:=AJ (k:=k) n;unfold yl at this;unfold Builtin.zeroCells;simpa using this
theorem zo.cells{c:Nat}(H:zo h k a ys):qc h a (ys.map (Value.int k)):=by
 unfold qc;cases a with
 | none=>
  cases ys with
  | nil=>rfl
  | cons y r=>obtain⟨ad,h1,_⟩:=H 0 y rfl;cases h1
 | some ad=>
  have key:∀(zs:List Int) (i:Nat),(∀j x,zs[j]? = some x->zj h (ad.add (i+j))=some (.int k x))->zq h ad i (zs.map (Value.int k)):=by
   intro zs;induction zs with
   | nil=>intros;trivial
   | cons z r ih=>
    intro i hz;refine⟨by simpa using hz 0 z rfl,ih (i+1) fun j x hx=>?_⟩;have:=hz (j+1) x (by simpa using hx);rwa[show i+(j+1)=i+1+j by omega]at this
  refine key ys 0 fun j x hx=>?_
  obtain⟨ad',h1,h2⟩:=H j x hx;cases h1
  simpa using h2
end
end Go.Eng
namespace Go.Eng
open Go
variable {k:IntKind}
theorem xL{p:Prop}[Decidable p]{a b:Int}:(if p then Value.int k a else Value.int k b)=.int k (if p then a else b):=by split <;> rfl
theorem wG{h:Heap}{a:Option Addr}{xs:List Int}(H:zo h k a xs){lo hi m:Nat}(h1:lo<=hi)(h2:hi<=xs.length)(h3:hi<=m) :
  ∃a',qa 1 a lo hi m=.slice a' ((xs.drop lo).take (hi-lo)).length (m-lo)/\zo h k a' ((xs.drop lo).take (hi-lo)):=by
 have hlen:((xs.drop lo).take (hi-lo)).length=hi-lo:=by rw[List.length_take,List.length_drop];omega
 refine⟨if m=lo then a else a.map (·.add (lo*1)),by rw[hlen];rfl,fun i x hx=>?_⟩;have hi':i<hi-lo:=by rw[<-hlen];exact(List.getElem?_eq_some_iff.1 hx).1
 rw[List.getElem?_take,if_pos hi',List.getElem?_drop]at hx;obtain⟨ad,rfl,hc⟩:=H _ x hx;rw[if_neg (by omega)];exact⟨_,rfl,by rw[add_add,Nat.mul_one];exact hc⟩
end Go.Eng
namespace Go.Eng
open Go
def Part(k:IntKind)(h:Heap)(v:Value)(xs:List Int):Prop:=
 (v=.slice none 0 0/\xs=[]) \/
 ∃b pr sp re T,v=.slice (some ⟨b,pr.length,none⟩) xs.length (xs.length+sp.length)/\h b=some (.cells (ints k (pr++xs++sp++re)) T)
theorem zu(b off j:Nat):(⟨b,off,none⟩:Addr).add j=⟨b,off+j,none⟩:=by
 unfold Addr.add;split
 ·rename_i h0;subst h0;rfl
 ·rfl
variable {h':Heap}{a:Option Addr}{c:Nat}
section
variable {k:IntKind}{h h0:Heap}{v:Value}{xs ys:List Int}
theorem Tw{pr sp re:List Int}{i:Nat}{x:Int}(hx:xs[i]? = some x):(Eng.ints k (pr++xs++sp++re))[pr.length+i]? = some (.int k x):=by
 have hlt:=(List.getElem?_eq_some_iff.1 hx).1;have:(pr++xs++sp++re)[pr.length+i]? = some x:=by
  rw[List.append_assoc,List.append_assoc,List.getElem?_append_right (by omega),Nat.add_sub_cancel_left,List.getElem?_append_left hlt];exact hx
 simp only[Eng.ints,List.getElem?_toArray,List.getElem?_map,this];rfl
theorem Own.part(H:Own k h v xs):Part k h v xs:=by
 obtain⟨b,sp,T,rfl,hb⟩:=H;exact .inr ⟨b,[],sp,[],T,rfl,by simpa using hb⟩
theorem Part.nil:Part k h (.slice none 0 0) []:=.inl ⟨rfl,rfl⟩
theorem Part.ints(H:Part k h v xs):∃a c,v=.slice a xs.length c/\xs.length<=c/\zo h k a xs:=by
 rcases H with⟨rfl,rfl⟩ | ⟨b,pr,sp,re,T,rfl,hb⟩
 ·exact⟨none,0,rfl,Nat.le_refl _,fun i x hx=>by simp at hx⟩
 ·refine⟨_,_,rfl,by omega,fun i x hx=>⟨_,rfl,?_⟩⟩;rw[zu];simp only[zj,hb];exact Tw hx
theorem Part.keep(H:Part k h v xs)(hk:∀b,zh v=some b->h' b=h b):Part k h' v xs:=by
 rcases H with H | ⟨b,pr,sp,re,T,rfl,hb⟩
 ·exact .inl H
 ·exact .inr ⟨b,pr,sp,re,T,rfl,by rw[hk b rfl];exact hb⟩
theorem Part.sub(H:Part k h v xs)(hs:Sub h h'):Part k h' v xs:=by
 rcases H with H | ⟨b,pr,sp,re,T,rfl,hb⟩
 ·exact .inl H
 ·exact .inr ⟨b,pr,sp,re,T,rfl,hs b _ hb⟩
theorem Part.held(H:Part k h v xs):∀b,zh v=some b->h b≠none:=by
 rcases H with⟨rfl,rfl⟩ | ⟨b,pr,sp,re,T,rfl,hb⟩
 ·intro b hb;cases hb
 ·intro b' hb';cases hb';rw[hb];simp
theorem New.nil:New h0 (.slice none 0 0):=fun b hb=>by cases hb
theorem Part.cut{l c:Nat}(H:Part k h (.slice a l c) xs){lo hi m:Nat}(h1:lo<=hi)(h2:hi<=xs.length)(h3:hi<=m)(h4:m<=c) :
  Part k h (qa 1 a lo hi m) ((xs.drop lo).take (hi-lo))/\(zh (qa 1 a lo hi m)=zh (.slice a l c)):=by
 rcases H with⟨hv,rfl⟩ | ⟨b,pr,sp,re,T,hv,hb⟩
 ·cases hv
  have:lo=0/\hi=0/\m=0:=by simp at h2;omega
  obtain⟨rfl,rfl,rfl⟩:=this;exact⟨.inl ⟨rfl,by simp⟩,rfl⟩
 ·cases hv
  have hlen:((xs.drop lo).take (hi-lo)).length=hi-lo:=by rw[List.length_take,List.length_drop];omega
  unfold qa;by_cases hm:m=lo
  ·have hh:hi=lo:=by omega
   subst hm;subst hh;rw[if_pos rfl];refine⟨.inr ⟨b,pr,[],xs++sp++re,T,by simp,?_⟩,rfl⟩;rw[hb];simp[List.append_assoc]
  ·rw[if_neg hm];refine⟨.inr ⟨b,pr++xs.take lo,((xs.drop lo).drop (hi-lo)++sp).take (m-hi),((xs.drop lo).drop (hi-lo)++sp).drop (m-hi)++re,T,?_,?_⟩,?_⟩
   ·simp only[Option.map_some,zu,Nat.mul_one,List.length_append,List.length_take,hlen,List.length_drop];have e1:min lo xs.length=lo:=by omega
    have e2:min (m-hi) (xs.length-lo-(hi-lo)+sp.length)=m-hi:=by omega
    rw[e1,e2];simp;omega
   ·rw[hb];have e3:xs=xs.take lo++((xs.drop lo).take (hi-lo)++(xs.drop lo).drop (hi-lo)):=by rw[List.take_append_drop,List.take_append_drop]
    have e4:∀(zs:List Int),zs.take (m-hi)++(zs.drop (m-hi)++re)=zs++re:=fun zs=>by rw[<-List.append_assoc,List.take_append_drop]
    congr 3
    conv=>lhs;rw[e3]
    simp only[List.append_assoc];rw[<-List.append_assoc ((xs.drop lo).drop (hi-lo)) sp re,<-e4]
   ·simp[zh,zu]
theorem yA{S:Shared}{ty:TypeId}{byt:Nat}{K:Value->Heap->Prop}(hi:Inv S h0)(hsub:Sub h0 h)(hs:Part k h v xs)(hn:New h0 v)(hx:zo h k a ys)
  (hl:(xs.length+ys.length)*byt<=140737488355328)
  (hK:∀v' h',Part k h' v' (xs++ys)->New h0 v'->Sub h0 h'->(∀b,h b≠none->zh v≠some b->h' b=h b)->(zh v'=zh v\/New h v')->K v' h') :
  appW S ty 1 byt [.int k 0] v (.slice a ys.length c) h K:=by
 have grown:∀(nc d:Nat),xs.length+ys.length<=nc->h d=none ->
   K (.slice (some ⟨d,0,none⟩) (xs.length+ys.length) nc) (upd h d (.cells ((xs.map (Value.int k)).toArray++(ys.map (Value.int k)).toArray++Builtin.zeroCells ([.int k 0]:List Value).toArray (nc-(xs.length+ys.length))) ty)):=by
  intro nc d hnc hd;have hd0:h0 d=none:=by
   cases hh:h0 d with
   | none=>rfl
   | some o=>rw[hsub d o hh]at hd;cases hd
  have e1:((xs.map (Value.int k)).toArray++(ys.map (Value.int k)).toArray++Builtin.zeroCells ([.int k 0]:List Value).toArray (nc-(xs.length+ys.length)))=Eng.ints k ((xs++ys)++List.replicate (nc-(xs.length+ys.length)) 0):=by
   rw[LI];simp[Eng.ints]
  rw[e1];refine hK _ _ (Own.part ⟨d,List.replicate (nc-(xs.length+ys.length)) 0,ty,?_,by simp[upd]⟩) (New.of hd0) ?_ (fun x hx hne=>?_) (.inr (New.of hd))
  ·simp;omega
  ·intro x o hx;have:x≠d:=fun e=>by rw[e,hd0]at hx;cases hx
   rw[upd_ne this];exact hsub x o hx
  ·have:x≠d:=fun e=>hx (e▸hd)
   exact upd_ne this
 have hs':=hs;obtain⟨a0,c0,hv0,_,hi0⟩:=hs'.ints;rcases hs with⟨rfl,rfl⟩ | ⟨b,pr,sp,re,T,rfl,hb⟩
 ·refine⟨ys.map (Value.int k),by simp[slL],hx.cells (c:=c),fun v hv=>?_,fun hroom=>?_,fun hgrow=>?_⟩
  ·obtain⟨y,_,rfl⟩:=List.mem_map.1 hv;exact IC
  ·simp only[slL,slC]at hroom;have hy:ys=[]:=List.length_eq_zero_iff.1 (by omega);subst hy;exact hK _ _ Part.nil New.nil hsub (fun _ _ _=>rfl) (.inl rfl)
  ·simp only[slA,slL,slC]at hgrow ⊢;refine⟨growslice_fits (by omega) (by simpa using hl),[],by simp,rfl,fun nc d hnc hd=>?_⟩;simpa using grown nc d (by simpa using hnc) hd
 ·have hb0:h0 b=none:=hn b rfl;have hsb:¬S b:=fun hs=>hi b hs hb0
  refine⟨ys.map (Value.int k),by simp[slL],hx.cells (c:=c),fun v hv=>?_,fun hroom=>?_,fun hgrow=>?_⟩
  ·obtain⟨y,_,rfl⟩:=List.mem_map.1 hv;exact IC
  ·simp only[slA,slL,slC]at hroom ⊢;have e0:(⟨b,pr.length,none⟩:Addr).add (xs.length*1)=⟨b,pr.length+xs.length,none⟩:=by rw[Nat.mul_one,zu]
   rw[e0];refine wW hsb ys 0 h (pr++xs++sp++re) hb (by simp;omega) ?_;have e1:kM (pr++xs++sp++re) (pr.length+xs.length+0) ys=pr++(xs++ys)++sp.drop ys.length++re:=by
    have e2:pr.length+xs.length=(pr++xs).length:=by simp
    have e3:(pr++xs++sp++re).take (pr++xs).length=pr++xs:=by rw[List.append_assoc (pr++xs),List.take_left'];rfl
    have e4:(pr++xs++sp++re).drop ((pr++xs).length+ys.length)=sp.drop ys.length++re:=by
     rw[List.append_assoc (pr++xs),<-List.drop_drop,List.drop_left',List.drop_append_of_le_length (by omega)];rfl
    unfold kM;rw[Nat.add_zero,e2,e3,e4];simp[List.append_assoc]
   rw[e1];refine hK _ _ (.inr ⟨b,pr,sp.drop ys.length,re,T,?_,by simp[upd]⟩) (fun x hx=>by cases hx;exact hb0) ?_ (fun x hx hne=>?_) (.inl rfl)
   ·simp;omega
   ·intro x o hx;have:x≠b:=fun e=>by rw[e,hb0]at hx;cases hx
    rw[upd_ne this];exact hsub x o hx
   ·have:x≠b:=fun e=>hne (by rw[e];rfl)
    exact upd_ne this
  ·simp only[slA,slL,slC]at hgrow ⊢;simp only[Value.slice.injEq]at hv0;obtain⟨rfl,_,_⟩:=hv0;exact⟨growslice_fits (by omega) hl,xs.map (Value.int k),by simp,zo.cells (c:=0) (ys:=xs) hi0,fun nc d hnc hd=>grown nc d hnc hd⟩
end
end Go.Eng
namespace Go.Eng
open Go
structure Ty(V X:Type) where
 R:Heap->V->X->Prop
 B:V->Nat->Prop
 O:Heap->V->X->Prop
 Rsub:∀ {h h' v x},R h v x->Sub h h'->R h' v x
 OR:∀ {h v x},O h v x->R h v x
 Okeep:∀ {h h' v x},O h v x->(∀b,B v b->h' b=h b)->O h' v x
 Oheld:∀ {h v x b},O h v x->B v b->h b≠none
def Ty.New{V X:Type}(A:Ty V X)(h:Heap)(v:V):Prop:=∀b,A.B v b->h b=none
variable {b:Nat}
theorem ya{h1 h2:Heap}(hs:Sub h1 h2)(hb:h2 b=none):h1 b=none:=by
 cases hh:h1 b with
 | none=>rfl
 | some o=>rw[hs _ _ hh]at hb;cases hb
variable {h h':Heap}
section
variable {V X:Type}{A:Ty V X}{h0 : Heap}{v:V}{x:X}
theorem Ty.kN(H:A.O h v x)(hs:Sub h h'):A.O h' v x:=A.Okeep H fun b hb=>by
 cases hh:h b with
 | none=>exact absurd hh (A.Oheld H hb)
 | some o=>exact hs b o hh
end
def HX(k:IntKind):Ty Value Int where
 R _ v x:=v=.int k x
 B _ _:=False
 O _ v x:=v=.int k x
 Rsub H _:=H
 OR H:=H
 Okeep H _:=H
 Oheld _ hb:=hb.elim
def YX(k:IntKind):Ty Value (List Int) where
 R h v xs:=∃a c,v=.slice a xs.length c/\zo h k a xs
 B v b:=zh v=some b
 O h v xs:=Part k h v xs
 Rsub:=fun⟨a,c,e,H⟩ hs=>⟨a,c,e,H.sub hs⟩
 OR H:=by obtain⟨a,c,e,_,hx⟩:=H.ints;exact⟨a,c,e,hx⟩
 Okeep H hk:=H.keep hk
 Oheld H hb:=H.held _ hb
def NU:Ty (List Value) Unit where
 R _ v _:=v=[]
 B _ _:=False
 O _ v _:=v=[]
 Rsub H _:=H
 OR H:=H
 Okeep H _:=H
 Oheld _ hb:=hb.elim
def BV{X Y:Type}(A:Ty Value X)(L:Ty (List Value) Y):Ty (List Value) (X×Y) where
 R h vs p:=∃v ws,vs=v::ws/\A.R h v p.1/\L.R h ws p.2
 B vs b:=∃v ws,vs=v::ws/\(A.B v b\/L.B ws b)
 O h vs p:=∃v ws,vs=v::ws/\A.O h v p.1/\L.O h ws p.2/\∀b,A.B v b->¬L.B ws b
 Rsub:=by rintro h h' vs x ⟨v,ws,e,H1,H2⟩ hs;exact⟨v,ws,e,A.Rsub H1 hs,L.Rsub H2 hs⟩
 OR:=by rintro h vs x ⟨v,ws,e,H1,H2,_⟩;exact⟨v,ws,e,A.OR H1,L.OR H2⟩
 Okeep:=by rintro h h' vs x ⟨v,ws,rfl,H1,H2,d⟩ hk;exact⟨v,ws,rfl,A.Okeep H1 fun b hb=>hk b ⟨v,ws,rfl,.inl hb⟩,L.Okeep H2 fun b hb=>hk b ⟨v,ws,rfl,.inr hb⟩,d⟩
 Oheld:=fun⟨v,ws,e,H1,H2,_⟩ ⟨v',ws',e',hb⟩=>by
  cases e.symm.trans e'
  rcases hb with hb | hb
  ·exact A.Oheld H1 hb
  ·exact L.Oheld H2 hb
def NV{X:Type}(L:Ty (List Value) X):Ty Value X where
 R h v p:=∃ws,v=.agg ws.toArray/\L.R h ws p
 B v b:=∃ws,v=.agg ws.toArray/\L.B ws b
 O h v p:=∃ws,v=.agg ws.toArray/\L.O h ws p
 Rsub:=by rintro h h' v x ⟨ws,e,H⟩ hs;exact⟨ws,e,L.Rsub H hs⟩
 OR:=by rintro h v x ⟨ws,e,H⟩;exact⟨ws,e,L.OR H⟩
 Okeep:=by rintro h h' v x ⟨ws,rfl,H⟩ hk;exact⟨ws,rfl,L.Okeep H fun b hb=>hk b ⟨ws,rfl,hb⟩⟩
 Oheld:=fun⟨ws,e,H⟩ ⟨ws',e',hb⟩=>by
  cases e.symm.trans e'
  exact L.Oheld H hb
section
variable {V W X Y:Type}{A:Ty V X}{L:Ty W Y}{v:V}{w:W}{x:X}
theorem Ty.off{S:Shared}(hi:Inv S h)(hn:A.New h v):∀b,A.B v b->¬S b:=fun b hb hs=>hi b hs (hn b hb)
end
section
variable {X Y:Type}{A:Ty Value X}{L:Ty (List Value) Y}{v:Value}{ws:List Value}{p:X × Y}{y:Y}{k:IntKind}
theorem LJ:(NV L).O h (.agg ws.toArray) y<->L.O h ws y:=
 ⟨fun⟨ws',e,H⟩=>by
  have:ws=ws':=by simpa using e
  subst this;exact H,fun H=>⟨ws,rfl,H⟩⟩
theorem QM:(NV L).B (.agg ws.toArray) b<->L.B ws b:=
 ⟨fun⟨ws',e,H⟩=>by
  have:ws=ws':=by simpa using e
  subst this;exact H,fun H=>⟨ws,rfl,H⟩⟩
theorem IZ:(BV A L).O h (v::ws) p<->A.O h v p.1/\L.O h ws p.2/\∀b,A.B v b->¬L.B ws b:=
 ⟨fun⟨_,_,e,H1,H2,d⟩=>by cases e;exact⟨H1,H2,d⟩,fun⟨H1,H2,d⟩=>⟨_,_,rfl,H1,H2,d⟩⟩
theorem F6:(BV A L).B (v::ws) b<->A.B v b\/L.B ws b:=
 ⟨fun⟨_,_,e,H⟩=>by cases e;exact H,fun H=>⟨_,_,rfl,H⟩⟩
theorem HY:(HX k).B v b<->False:=Iff.rfl
theorem HZ:NU.B ws b<->False:=Iff.rfl
theorem QN{n:Int}:(HX k).O h v n<->v=.int k n:=Iff.rfl
theorem QO{n:Unit}:NU.O h ws n<->ws=[]:=Iff.rfl
end
end Go.Eng
namespace Go.Eng
open Go
theorem JV(w:Nat)(hw:0<w)(y:Int):(BitVec.ofInt w y &&& BitVec.ofInt w 1).toNat=(y%2).toNat:=by
 have e1:BitVec.ofInt w (1:Int)=1#w:=by rw[show(1:Int)=((1:Nat):Int) by rfl,BitVec.ofInt_natCast]
 rw[e1,BitVec.toNat_and,BitVec.toNat_ofInt];have e2:(1#w).toNat=1:=by
  rw[BitVec.toNat_ofNat];exact Nat.mod_eq_of_lt (Nat.one_lt_two_pow (by omega))
 rw[e2,Nat.and_one_is_mod];have h2:((2^w:Nat):Int)=2*((2^(w-1):Nat):Int):=by
  have:2^w=2*2^(w-1):=by rw[<-Nat.pow_succ',Nat.succ_eq_add_one,Nat.sub_add_cancel hw]
  rw[this];push_cast;rfl
 rw[h2];have h3:y%(2*((2^(w-1):Nat):Int))%2=y%2:=Int.emod_emod_of_dvd _ ⟨_,rfl⟩;have h4:0<=y%(2*((2^(w-1):Nat):Int)):=Int.emod_nonneg _ (by have:0<2^(w-1):=Nat.two_pow_pos _;omega);omega
theorem XF(y:Int):Go.bits .and .u8 y 1=y%2:=by
 show IntKind.u8.wrap ((BitVec.ofInt 8 y &&& BitVec.ofInt 8 1).toNat:Int)=_;rw[JV 8 (by decide),IntKind.wrap_u8];omega
theorem OK(y:Int):Go.bits .and .u64 y 1=y%2:=by
 show IntKind.u64.wrap ((BitVec.ofInt 64 y &&& BitVec.ofInt 64 1).toNat:Int)=_;rw[JV 64 (by decide),IntKind.wrap_u64];omega
theorem yC(n:Nat):(2:Int)^n=((2^n:Nat):Int):=by push_cast;rfl
variable {i:Nat}
theorem YY{v:Int}(b:Int)(h0:0<=v)(h1:v<2^i)(hb:0<=b/\b<=1)(hi:i<64):Go.bits .or .u64 v (b*2^i)=v+b*2^i:=by
 obtain⟨n,rfl⟩:=Int.eq_ofNat_of_zero_le h0;obtain⟨m,rfl⟩:=Int.eq_ofNat_of_zero_le hb.1;rw[yC]at h1 ⊢;have hn:n<2^i:=by exact_mod_cast h1
 have hm:m<=1:=by omega
 have hp:2^i<=2^63:=Nat.pow_le_pow_right (by decide) (by omega);have hle:m*2^i<=2^i:=by have:=Nat.mul_le_mul_right (2^i) hm;omega
 have e:((m:Int)*((2^i:Nat):Int))=((m*2^i:Nat):Int):=by push_cast;rfl
 rw[e,Go.bits_or_u64_nat n (m*2^i) (by omega) (by omega)];have e2:=Nat.two_pow_add_eq_or_of_lt hn m;rw[Nat.or_comm,Nat.mul_comm m,<-e2]
 push_cast
 omega
def xu(xs:List Int)(i:Nat):Int:=(xs.getD (i/8) 0).fdiv (2^(i%8))%2
def yg(xs:List Int)(at_:Nat):Nat->Int
 | 0=>0
 | n+1=>yg xs at_ n+xu xs (at_+n)*2^n
variable {xs:List Int}
theorem Bx:0<=xu xs i/\xu xs i<=1:=by unfold xu;omega
variable {n:Nat}
theorem Tx:∀ {a:Nat},yg xs a (n+1)=2*yg xs (a+1) n+xu xs a:=by
 induction n with
 | zero=>intro a;simp[yg]
 | succ n ih=>
  intro a;rw[yg,ih,yg,show a+(n+1)=a+1+n by omega,show(2:Int)^(n+1)=2*2^n by rw[Int.pow_succ];omega];generalize xu xs (a+1+n)=b;generalize (2:Int)^n=p;have:b*(2*p)=2*(b*p):=by rw[Int.mul_left_comm]
  omega
theorem qS{a n:Nat}:0<=yg xs a n/\yg xs a n<2^n:=by
 induction n with
 | zero=>simp[yg]
 | succ n ih=>
  rw[yg,show(2:Int)^(n+1)=2*2^n by rw[Int.pow_succ];omega];have hb:=Bx (xs:=xs) (i:=a+n);have hp:(0:Int)<2^n:=Int.pow_pos (by decide);have:xu xs (a+n)=0\/xu xs (a+n)=1:=by omega
  rcases this with h | h <;> rw[h] <;> omega
end Go.Eng
namespace Go.Eng
open Go
def zB(n:Nat)(L:List Int):List Int:=L.drop (L.length-n)
variable {n:Nat}{L:List Int}
theorem je:(zB n L).length=min L.length n:=by unfold zB;rw[List.length_drop];omega
theorem OL(h:L.length<=n):zB n L=L:=by unfold zB;rw[show L.length-n=0 by omega,List.drop_zero]
variable {K:List Int}
theorem BW:zB n (zB n K++L)=zB n (K++L):=by
 unfold zB;rw[List.length_append,List.length_append,List.length_drop];by_cases h:K.length<=n
 ·rw[show K.length-n=0 by omega,List.drop_zero,Nat.sub_zero]
 ·have e:(K.drop (K.length-n)++L)=(K++L).drop (K.length-n):=by rw[List.drop_append_of_le_length (by omega)]
  rw[e,List.drop_drop];congr 1;omega
theorem F7:zB n (zB n K)=zB n K:=by
 have:=BW (n:=n) (K:=K) (L:=[]);simpa using this
theorem Sb{n m:Nat}(hm:m<=L.length-n):zB n (K++L.drop m)=zB n (K++L):=by
 unfold zB;rw[List.length_append,List.length_append,List.length_drop];by_cases h:m=0
 ·subst h;simp
 ·have hmn:m+n<=L.length:=by omega
  have e1:K.length+(L.length-m)-n=K.length+(L.length-m-n):=by omega
  have e2:K.length+L.length-n=K.length+(L.length-n):=by omega
  rw[e1,e2,List.drop_length_add_append,List.drop_length_add_append,List.drop_drop];congr 1;omega
def yj(sz:Int)(d:List Int)(at_ n:Int)(T:TypeId):Obj:=.cells (Value.int .i64 sz::(d.map (Value.int .u8)++[.int .i64 at_,.int .i64 n])).toArray T
theorem V8{x s:Nat}(h:x<2*s):x%s=if x<s then x else x-s:=by
 split
 ·exact Nat.mod_eq_of_lt ‹_›
 ·rw[Nat.mod_eq_sub_mod (by omega)];exact Nat.mod_eq_of_lt (by omega)
structure RingS(sz:Nat)(d:List Int)(at_ n:Nat)(K:List Int):Prop where
 dl:d.length=32768
 s1:1<=sz
 s2:sz<=32768
 a1:at_<sz
 kn:K.length=n
 n1:n<=sz
 rd:∀j,j<n->d[(at_+sz-n+j)%sz]? = K[j]?
variable {sz:Nat}
theorem RingS.new(h1:1<=sz)(h2:sz<=32768):RingS sz (List.replicate 32768 0) 0 0 []:=
 ⟨by rw[List.length_replicate],h1,h2,by omega,rfl,by omega,fun j hj=>by omega⟩
variable {d:List Int}
theorem RingS.push{at_ n:Nat}(R:RingS sz d at_ n K)(c:Int) :
  RingS sz (d.set at_ c) ((at_+1)%sz) (min (n+1) sz) (zB sz (K++[c])):=by
 obtain⟨dl,s1,s2,a1,kn,n1,rd⟩:=R;refine⟨by rw[List.length_set];exact dl,s1,s2,Nat.mod_lt _ (by omega),by rw[je];simp[kn],by omega,fun j hj=>?_⟩;have e0:(at_+1)%sz=if at_+1<sz then at_+1 else 0:=by
  rw[V8 (by omega)];split <;> omega
 rw[e0];have pos:∀y,(if at_+1<sz then at_+1 else 0)+sz-min (n+1) sz+j=y->y<2*sz:=by intro y hy;split at hy <;> omega
 rw[V8 (pos _ rfl)];unfold zB;rw[List.getElem?_drop,List.length_append,kn,List.length_singleton];by_cases hl:j+1=min (n+1) sz
 ·
  have e1:(if(if at_+1<sz then at_+1 else 0)+sz-min (n+1) sz+j<sz then(if at_+1<sz then at_+1 else 0)+sz-min (n+1) sz+j else(if at_+1<sz then at_+1 else 0)+sz-min (n+1) sz+j-sz)=at_:=by
   split <;> split <;> omega
  rw[e1,List.getElem?_set_self (by omega)];rw[List.getElem?_append_right (by omega)];have e2:n+1-sz+j-K.length=0:=by omega
  rw[e2];rfl
 ·have hj2:n+1-sz+j<n:=by omega
  have h:=rd (n+1-sz+j) hj2;rw[V8 (by omega)]at h;rw[List.getElem?_append_left (by omega),<-h];have e1:(if(if at_+1<sz then at_+1 else 0)+sz-min (n+1) sz+j<sz then(if at_+1<sz then at_+1 else 0)+sz-min (n+1) sz+j else(if at_+1<sz then at_+1 else 0)+sz-min (n+1) sz+j-sz)=(if at_+sz-n+(n+1-sz+j)<sz then at_+sz-n+(n+1-sz+j)else at_+sz-n+(n+1-sz+j)-sz):=by
   split <;> split <;> split <;> omega
  rw[e1,List.getElem?_set_ne];split <;> omega
variable {i:Nat}
section
variable {h:Heap}{S:Shared}{b:Nat}{sz at_ n:Int}{T:TypeId}
theorem EK(hb:h b=some (yj sz d at_ n T)):zj h ⟨b,0,none⟩=some (.int .i64 sz):=by simp[zj,hb,yj]
theorem Tz(hb:h b=some (yj sz d at_ n T)){x:Int}(hx:d[i]? = some x):zj h ⟨b,1+i,none⟩=some (.int .u8 x):=by
 have hi:=(List.getElem?_eq_some_iff.1 hx).1;simp only[zj,hb,yj,List.getElem?_toArray];rw[Nat.add_comm,List.getElem?_cons_succ,List.getElem?_append_left (by simpa using hi),List.getElem?_map,hx];rfl
theorem Ia(hb:h b=some (yj sz d at_ n T))(hd:d.length=32768):zj h ⟨b,32769,none⟩=some (.int .i64 at_):=by
 simp only[zj,hb,yj,List.getElem?_toArray];rw[show(32769:Nat)=32768+1 by rfl,List.getElem?_cons_succ,List.getElem?_append_right (by simp[hd])];simp[hd]
theorem OM(hb:h b=some (yj sz d at_ n T))(hd:d.length=32768):zj h ⟨b,32770,none⟩=some (.int .i64 n):=by
 simp only[zj,hb,yj,List.getElem?_toArray];rw[show(32770:Nat)=32769+1 by rfl,List.getElem?_cons_succ,List.getElem?_append_right (by simp[hd])];simp[hd]
theorem LK(hb:h b=some (yj sz d at_ n T))(hs:¬S b){v:Value}(hc:zj h ⟨b,i,none⟩=some v):xE S h ⟨b,i,none⟩:=
 ⟨⟨v,hc⟩,by simp[yN,hb,yj],hs⟩
theorem wH{c:Array Value}(hb:h b=some (.cells c T))(i:Nat)(v:Value):zQ h ⟨b,i,none⟩ v=upd h b (.cells (c.setIfInBounds i v) T):=by
 funext x;unfold zQ upd;by_cases hx:x=b <;> simp[hx,hb]
theorem TB(hb:h b=some (yj sz d at_ n T))(hi:i<d.length)(x:Int):zQ h ⟨b,1+i,none⟩ (.int .u8 x)=upd h b (yj sz (d.set i x) at_ n T):=by
 rw[wH hb];unfold yj;rw[List.setIfInBounds_toArray,Nat.add_comm,List.set_cons_succ,List.set_append_left _ _ (by simpa using hi),List.map_set]
theorem Sc(hb:h b=some (yj sz d at_ n T))(hd:d.length=32768)(x:Int):zQ h ⟨b,32769,none⟩ (.int .i64 x)=upd h b (yj sz d x n T):=by
 rw[wH hb];unfold yj;rw[List.setIfInBounds_toArray,show(32769:Nat)=32768+1 by rfl,List.set_cons_succ,List.set_append_right _ _ (by simp[hd])];simp[hd]
theorem TC(hb:h b=some (yj sz d at_ n T))(hd:d.length=32768)(x:Int):zQ h ⟨b,32770,none⟩ (.int .i64 x)=upd h b (yj sz d at_ x T):=by
 rw[wH hb];unfold yj;rw[List.setIfInBounds_toArray,show(32770:Nat)=32769+1 by rfl,List.set_cons_succ,List.set_append_right _ _ (by simp[hd])];simp[hd]
theorem TD(sz:Int)(T:TypeId):Obj.cells (Value.int .i64 sz::(List.replicate 32768 (Value.int .u8 0)++List.replicate 2 (Value.int .i64 0))).toArray T=yj sz (List.replicate 32768 0) 0 0 T:=by
 unfold yj;rw[List.map_replicate];rfl
end
end Go.Eng
namespace Go.Eng
open Go
def pv(p:Int×Int):List Value:=[.int .i64 p.1,.int .u64 p.2]
def yP(ps:List (Int×Int)):Array Value:=(ps.flatMap pv).toArray
theorem ON(ps:List (Int×Int)):(ps.flatMap pv).length=ps.length*2:=by
 induction ps with
 | nil=>rfl
 | cons p r ih=>simp only[vF,List.length_append,ih,pv,List.length_cons,List.length_nil];omega
theorem JW(ps:List (Int×Int)):(yP ps).size=ps.length*2:=by simp only[yP,List.size_toArray];exact ON ps
theorem OO:∀ {ps:List (Int×Int)} {i:Nat} {p:Int×Int},ps[i]? = some p->(ps.flatMap pv)[i*2]? = some (.int .i64 p.1)/\(ps.flatMap pv)[i*2+1]? = some (.int .u64 p.2)
 | [],i,p,h=>by simp at h
 | q::r,0,p,h=>by
  simp only[vC,Option.some.injEq]at h;subst h;exact⟨rfl,rfl⟩
 | q::r,i+1,p,h=>by
  rw[List.getElem?_cons_succ]at h;have:=OO h;rw[vF];have e:pv q=[.int .i64 q.1,.int .u64 q.2]:=rfl;rw[e,show(i+1)*2=i*2+2 by omega];exact this
theorem TE:∀ {ps:List (Int×Int)} {i:Nat} (x y:Int),i<ps.length->((ps.flatMap pv).set (i*2) (.int .i64 x)).set (i*2+1) (.int .u64 y)=(ps.set i (x,y)).flatMap pv
 | [],i,x,y,h=>by simp at h
 | q::r,0,x,y,h=>rfl
 | q::r,i+1,x,y,h=>by
  have:=TE (ps:=r) (i:=i) x y (by simpa using h);rw[List.set_cons_succ,vF,vF,<-this];have e:pv q=[.int .i64 q.1,.int .u64 q.2]:=rfl;rw[e,show(i+1)*2=i*2+2 by omega];rfl
variable {i:Nat}
theorem ML{ps:List (Int×Int)}(x y:Int)(h:i<ps.length):((yP ps).setIfInBounds (i*2) (.int .i64 x)).setIfInBounds (i*2+1) (.int .u64 y)=yP (ps.set i (x,y)):=by
 simp only[yP,List.setIfInBounds_toArray];rw[TE x y h]
theorem FZ(n:Nat):yl (n*2) (([.int .i64 0,.int .u64 0]:List Value).toArray)=yP (List.replicate n (0,0)):=by
 apply Array.ext_getElem?;intro i;simp only[yl,yP,Array.getElem?_map,List.getElem?_toArray];by_cases hi:i<n*2
 ·have e1:(Array.range (n*2))[i]? = some i:=by simp[hi]
  rw[e1];have hr:(List.replicate n ((0:Int),(0:Int)))[i/2]? = some (0,0):=by rw[List.getElem?_replicate,if_pos (by omega)]
  have:=OO hr;rcases Nat.mod_two_eq_zero_or_one i with h2 | h2
  ·have e2:i=i/2*2:=by omega
   rw[e2,this.1];simp[show i/2*2%2=0 by omega]
  ·have e2:i=i/2*2+1:=by omega
   rw[e2,this.2];simp[show(i/2*2+1)%2=1 by omega]
 ·have e1:(Array.range (n*2))[i]? = none:=by simp;omega
  rw[e1]
  symm
  rw[Option.map_none,List.getElem?_eq_none];rw[ON,List.length_replicate];omega
theorem JX(n:Nat):Builtin.zeroCells ([.int .i64 0,.int .u64 0]:List Value).toArray n=yP (List.replicate n (0,0)):=by
 have:=FZ n;unfold yl at this;unfold Builtin.zeroCells;simpa using this
def jZ(h:Heap)(a:Option Addr)(ps:List (Int×Int)):Prop:=∀(i:Nat) p,ps[i]? = some p->∃ad,a=some ad/\zj h (ad.add (i*2))=some (.int .i64 p.1)/\zj h (ad.add (i*2+1))=some (.int .u64 p.2)
def xp(h:Heap)(v:Value)(ps:List (Int×Int)):Prop:=
 ∃b sp T,v=.slice (some ⟨b,0,none⟩) ps.length (ps.length+sp.length)/\h b=some (.cells (yP (ps++sp)) T)
variable {p:Int×Int}{b:Nat}{T:TypeId}
section
variable {h h0 h' : Heap}{v:Value}{ps qs:List (Int × Int)}{a:Option Addr}
theorem jZ.sub(H:jZ h a ps)(hs:Sub h h'):jZ h' a ps:=fun i p hp=>by
 obtain⟨ad,e,h1,h2⟩:=H i p hp;exact⟨ad,e,xF hs h1,xF hs h2⟩
theorem jZ.cell(H:jZ h a ps)(hp:ps[i]? = some p):zj h ((a.getD default).add (i*2))=some (.int .i64 p.1)/\zj h ((a.getD default).add (i*2+1))=some (.int .u64 p.2)/\a.isSome=true:=by
 obtain⟨ad,rfl,h1,h2⟩:=H i p hp;exact⟨h1,h2,rfl⟩
theorem jZ.of{sp:List (Int×Int)}(hb:h b=some (.cells (yP (ps++sp)) T)):jZ h (some ⟨b,0,none⟩) ps:=fun i p hp=>by
 have hp2:(ps++sp)[i]? = some p:=by rw[List.getElem?_append_left (List.getElem?_eq_some_iff.1 hp).1];exact hp
 have:=OO hp2;refine⟨_,rfl,?_,?_⟩ <;> rw[yR] <;> simp only[zj,hb,yP,List.getElem?_toArray]
 ·exact this.1
 ·exact this.2
theorem xp.yP(H:xp h v ps):∃a c,v=.slice a ps.length c/\ps.length<=c/\jZ h a ps:=by
 obtain⟨b,sp,T,rfl,hb⟩:=H;exact⟨_,_,rfl,by omega,jZ.of hb⟩
theorem xp.keep(H:xp h v ps)(hk:∀b,zh v=some b->h' b=h b):xp h' v ps:=by
 obtain⟨b,sp,T,rfl,hb⟩:=H;exact⟨b,sp,T,rfl,by rw[hk b rfl];exact hb⟩
theorem xp.held(H:xp h v ps):∀b,zh v=some b->h b≠none:=by
 obtain⟨b,sp,T,rfl,hb⟩:=H;intro b' hb';cases hb';rw[hb];simp
theorem xp.made(ps:List (Int×Int)):xp (upd h b (.cells (Eng.yP ps) T)) (.slice (some ⟨b,0,none⟩) ps.length ps.length) ps:=
 ⟨b,[],T,by simp,by simp[upd]⟩
theorem hset_cells'{c:Array Value}(hb:h b=some (.cells c T))(i:Nat)(v:Value):zQ h ⟨b,i,none⟩ v=upd h b (.cells (c.setIfInBounds i v) T):=by
 funext x;unfold zQ upd;by_cases hx:x=b <;> simp[hx,hb]
theorem MM{k:IntKind}{n:Int}:Bt (.int k n):=⟨rfl,by simp,by simp⟩
theorem TF{S:Shared}{ty:TypeId}{byt:Nat}{a:Option Addr}{c:Nat}{K:Value->Heap->Prop}(hi:Inv S h0)(hsub:Sub h0 h)(hs:xp h v ps)(hn:New h0 v)(hx:jZ h a [p])
  (hl:(ps.length+1)*byt<=140737488355328)
  (hK:∀v' h',xp h' v' (ps++[p])->New h0 v'->Sub h0 h'->(∀b,h b≠none->zh v≠some b->h' b=h b)->(zh v'=zh v\/New h v')->K v' h') :
  appW S ty 2 byt [.int .i64 0,.int .u64 0] v (.slice a 1 c) h K:=by
 obtain⟨b,sp,T,rfl,hb⟩:=hs;have hb0:h0 b=none:=hn b rfl;have hsb:¬S b:=fun hs=>hi b hs hb0
 obtain⟨ad,rfl,g1,g2⟩:=hx 0 p rfl;refine⟨pv p,rfl,⟨by simpa using g1,by simpa using g2,trivial⟩,fun v hv=>?_,fun hroom=>?_,fun hgrow=>?_⟩
 ·simp only[pv,List.mem_cons,List.not_mem_nil,or_false]at hv;rcases hv with rfl | rfl <;> exact MM
 ·simp only[slA,slL,slC]at hroom ⊢;obtain⟨q,sp,rfl⟩:∃q r,sp=q::r:=by
   cases sp with
   | nil=>exfalso;simp only[List.length_nil]at hroom;omega
   | cons q r=>exact⟨q,r,rfl⟩
  have hsz:(Eng.yP (ps++q::sp)).size=(ps.length+(sp.length+1))*2:=by rw[JW];simp
  have hlt:ps.length<(ps++q::sp).length:=by simp
  have e0:((⟨b,0,none⟩:Addr).add (ps.length*2))=⟨b,ps.length*2,none⟩:=yR _;rw[e0];have ok:∀ {c:Array Value} {h1:Heap} {i:Nat},h1 b=some (.cells c T)->i<c.size->xE S h1 ⟨b,i,none⟩:=fun {c h1 i} hc hi2=>
   ⟨⟨c[i],by simp[zj,hc,hi2]⟩,by simp[yN,hc],hsb⟩
  refine⟨by rw[zu];exact ok hb (by rw[hsz];omega),?_⟩;rw[zu,hset_cells' hb];refine⟨by rw[zu];exact ok upd_same (by rw[Array.size_setIfInBounds,hsz];omega),?_⟩;rw[zu,hset_cells' upd_same,xw];show K (.slice (some ⟨b,0,none⟩) (ps.length+1) (ps.length+(q::sp).length)) (upd h b (.cells (((Eng.yP (ps++q::sp)).setIfInBounds (ps.length*2) (.int .i64 p.1)).setIfInBounds (ps.length*2+1) (.int .u64 p.2)) T));rw[ML _ _ hlt];have e1:(ps++q::sp).set ps.length (p.1,p.2)=(ps++[p])++sp:=by
   rw[List.set_append_right _ _ (Nat.le_refl _),Nat.sub_self,List.set_cons_zero];simp
  rw[e1];refine hK _ _ ⟨b,sp,T,?_,upd_same⟩ (New.of hb0) ?_ (fun x hx hne=>upd_ne fun e=>hne (by rw[e];rfl)) (.inl rfl)
  ·simp;omega
  ·intro x o hx;rw[upd_ne (fun e=>by rw[e,hb0]at hx;cases hx)];exact hsub x o hx
 ·simp only[slA,slL,slC]at hgrow ⊢;refine⟨growslice_fits (by omega) hl,ps.flatMap pv,by rw[ON],?_,fun nc d hnc hd=>?_⟩
  ·
   have key:∀(zs:List Value) (i:Nat),(∀j x,zs[j]? = some x->zj h (((⟨b,0,none⟩:Addr)).add (i+j))=some x)->zq h (⟨b,0,none⟩:Addr) i zs:=by
    intro zs;induction zs with
    | nil=>intros;trivial
    | cons z r ih=>
     intro i hz;refine⟨by simpa using hz 0 z rfl,ih (i+1) fun j x hx=>?_⟩;have:=hz (j+1) x (by simpa using hx);rwa[show i+(j+1)=i+1+j by omega]at this
   refine key _ 0 fun j x hx=>?_
   rw[yR,Nat.zero_add];simp only[zj,hb,Eng.yP,List.getElem?_toArray,List.flatMap_append];rw[List.getElem?_append_left (List.getElem?_eq_some_iff.1 hx).1];exact hx
  ·have hd0:h0 d=none:=by
    cases hh:h0 d with
    | none=>rfl
    | some o=>rw[hsub d o hh]at hd;cases hd
   have e1:((ps.flatMap pv).toArray++(pv p).toArray++Builtin.zeroCells ([.int .i64 0,.int .u64 0]:List Value).toArray (nc-(ps.length+1)))=Eng.yP ((ps++[p])++List.replicate (nc-(ps.length+1)) (0,0)):=by
    rw[JX];simp[Eng.yP]
   rw[e1];refine hK _ _ ⟨d,List.replicate (nc-(ps.length+1)) (0,0),ty,?_,by simp[upd]⟩ (New.of hd0) ?_ (fun x hx hne=>?_) (.inr (New.of hd))
   ·simp;omega
   ·intro x o hx;have:x≠d:=fun e=>by rw[e,hd0]at hx;cases hx
    rw[upd_ne this];exact hsub x o hx
   ·have:x≠d:=fun e=>hx (e▸hd)
    exact upd_ne this
end
def zag:Ty Value (List (Int×Int)) where
 R h v ps:=∃a c,v=.slice a ps.length c/\jZ h a ps
 B v b:=zh v=some b
 O h v ps:=xp h v ps
 Rsub:=by rintro h h' v ps ⟨a,c,e,H⟩ hs;exact⟨a,c,e,H.sub hs⟩
 OR H:=by obtain⟨a,c,e,_,hx⟩:=H.yP;exact⟨a,c,e,hx⟩
 Okeep H hk:=H.keep hk
 Oheld H hb:=H.held _ hb
end Go.Eng
namespace Go.Eng
open Go
def pw(p:Int×Int):List Value:=[.int .i64 p.1,.int .i64 p.2]
def xm(ps:List (Int×Int)):Array Value:=(ps.flatMap pw).toArray
theorem AK(ps:List (Int×Int)):(ps.flatMap pw).length=ps.length*2:=by
 induction ps with
 | nil=>rfl
 | cons p r ih=>simp only[vF,List.length_append,ih,pw,List.length_cons,List.length_nil];omega
theorem JY(ps:List (Int×Int)):(xm ps).size=ps.length*2:=by simp only[xm,List.size_toArray];exact AK ps
theorem JZ:∀ {ps:List (Int×Int)} {i:Nat} {p:Int×Int},ps[i]? = some p->(ps.flatMap pw)[i*2]? = some (.int .i64 p.1)/\(ps.flatMap pw)[i*2+1]? = some (.int .i64 p.2)
 | [],i,p,h=>by simp at h
 | q::r,0,p,h=>by
  simp only[vC,Option.some.injEq]at h;subst h;exact⟨rfl,rfl⟩
 | q::r,i+1,p,h=>by
  rw[List.getElem?_cons_succ]at h;have:=JZ h;rw[vF];have e:pw q=[.int .i64 q.1,.int .i64 q.2]:=rfl;rw[e,show(i+1)*2=i*2+2 by omega];exact this
theorem QP:∀ {ps:List (Int×Int)} {i:Nat} (x y:Int),ps[i]? = some (x,y)->∀z,(ps.flatMap pw).set (i*2) (.int .i64 z)=(ps.set i (z,y)).flatMap pw
 | [],i,x,y,h,z=>by simp at h
 | q::r,0,x,y,h,z=>by
  simp only[vC,Option.some.injEq]at h;subst h;rfl
 | q::r,i+1,x,y,h,z=>by
  have:=QP (ps:=r) (i:=i) x y (by simpa using h) z;rw[List.set_cons_succ,vF,vF,<-this];have e:pw q=[.int .i64 q.1,.int .i64 q.2]:=rfl;rw[e,show(i+1)*2=i*2+2 by omega];rfl
theorem QQ:∀ {ps:List (Int×Int)} {i:Nat} (x y:Int),ps[i]? = some (x,y)->∀z,(ps.flatMap pw).set (i*2+1) (.int .i64 z)=(ps.set i (x,z)).flatMap pw
 | [],i,x,y,h,z=>by simp at h
 | q::r,0,x,y,h,z=>by
  simp only[vC,Option.some.injEq]at h;subst h;rfl
 | q::r,i+1,x,y,h,z=>by
  have:=QQ (ps:=r) (i:=i) x y (by simpa using h) z;rw[List.set_cons_succ,vF,vF,<-this];have e:pw q=[.int .i64 q.1,.int .i64 q.2]:=rfl;rw[e,show(i+1)*2+1=i*2+1+2 by omega];rfl
theorem MN(n:Nat):yl (n*2) (([.int .i64 0,.int .i64 0]:List Value).toArray)=xm (List.replicate n (0,0)):=by
 apply Array.ext_getElem?;intro i;simp only[yl,xm,Array.getElem?_map,List.getElem?_toArray];by_cases hi:i<n*2
 ·have e1:(Array.range (n*2))[i]? = some i:=by simp[hi]
  rw[e1];have hr:(List.replicate n ((0:Int),(0:Int)))[i/2]? = some (0,0):=by rw[List.getElem?_replicate,if_pos (by omega)]
  have:=JZ hr;rcases Nat.mod_two_eq_zero_or_one i with h2 | h2
  ·have e2:i=i/2*2:=by omega
   rw[e2,this.1];simp[show i/2*2%2=0 by omega]
  ·have e2:i=i/2*2+1:=by omega
   rw[e2,this.2];simp[show(i/2*2+1)%2=1 by omega]
 ·have e1:(Array.range (n*2))[i]? = none:=by simp;omega
  rw[e1]
  symm
  rw[Option.map_none,List.getElem?_eq_none];rw[AK,List.length_replicate];omega
theorem Qv(n:Nat):Builtin.zeroCells ([.int .i64 0,.int .i64 0]:List Value).toArray n=xm (List.replicate n (0,0)):=by
 have:=MN n;unfold yl at this;unfold Builtin.zeroCells;simpa using this
def qT(h:Heap)(a:Option Addr)(ps:List (Int×Int)):Prop:=∀(i:Nat) p,ps[i]? = some p->∃ad,a=some ad/\zj h (ad.add (i*2))=some (.int .i64 p.1)/\zj h (ad.add (i*2+1))=some (.int .i64 p.2)
def qU(h:Heap)(v:Value)(ps:List (Int×Int)):Prop:=
 ∃b sp T,v=.slice (some ⟨b,0,none⟩) ps.length (ps.length+sp.length)/\h b=some (.cells (xm (ps++sp)) T)
def kO(zs:List Value)(n:Nat)(ys:List Value):List Value:=zs.take n++ys++zs.drop (n+ys.length)
variable {S:Shared}{T:TypeId}
theorem Et{b off:Nat}{K:Heap->Prop}(hs:¬S b):∀(ys:List Value) (i:Nat) (h:Heap) (zs:List Value),h b=some (.cells zs.toArray T)->off+i+ys.length<=zs.length ->
  K (upd h b (.cells (kO zs (off+i) ys).toArray T))->yk S ⟨b,off,none⟩ i ys h K:=by
 intro ys;induction ys with
 | nil=>
  intro i h zs hb _ hK;have e:kO zs (off+i) []=zs:=by simp[kO]
  rw[e,qR hb]at hK;exact hK
 | cons y r ih=>
  intro i h zs hb hl hK;simp only[List.length_cons]at hl;refine⟨⟨⟨zs[off+i]'(by omega),?_⟩,?_,?_⟩,?_⟩
  ·rw[zu];simp[zj,hb]
  ·rw[zu];simp[yN,hb]
  ·rw[zu];exact hs
  ·have e1:zQ h ((⟨b,off,none⟩:Addr).add i) y=upd h b (.cells (zs.set (off+i) y).toArray T):=by
    rw[zu];funext x;unfold zQ upd;by_cases hx:x=b
    ·subst hx;simp[hb]
    ·simp[hx]
   rw[e1];refine ih (i+1) _ (zs.set (off+i) y) (by simp[upd]) (by simp;omega) ?_;rw[xw];have e2:kO (zs.set (off+i) y) (off+(i+1)) r=kO zs (off+i) (y::r):=by
    unfold kO;rw[show off+(i+1)=off+i+1 by omega,List.take_add_one,List.take_set_of_le (by omega),List.drop_set_of_lt (by omega)];simp only[List.length_cons];rw[List.getElem?_set_self (by omega)];simp[show off+i+1+r.length=off+i+(r.length+1) by omega]
   rw[e2];exact hK
variable {b c i l:Nat}{x y:Int}
section
variable {h h0 h' : Heap}{v:Value}{ps qs:List (Int × Int)}{a:Option Addr}
theorem qT.cell(H:qT h a ps){p:Int×Int}(hp:ps[i]? = some p):zj h ((a.getD default).add (i*2))=some (.int .i64 p.1)/\zj h ((a.getD default).add (i*2+1))=some (.int .i64 p.2)/\a.isSome=true:=by
 obtain⟨ad,rfl,h1,h2⟩:=H i p hp;exact⟨h1,h2,rfl⟩
theorem qT.of{sp:List (Int×Int)}(hb:h b=some (.cells (xm (ps++sp)) T)):qT h (some ⟨b,0,none⟩) ps:=fun i p hp=>by
 have hp2:(ps++sp)[i]? = some p:=by rw[List.getElem?_append_left (List.getElem?_eq_some_iff.1 hp).1];exact hp
 have:=JZ hp2;refine⟨_,rfl,?_,?_⟩ <;> rw[yR] <;> simp only[zj,hb,xm,List.getElem?_toArray]
 ·exact this.1
 ·exact this.2
theorem qU.yP(H:qU h v ps):∃a c,v=.slice a ps.length c/\ps.length<=c/\qT h a ps:=by
 obtain⟨b,sp,T,rfl,hb⟩:=H;exact⟨_,_,rfl,by omega,qT.of hb⟩
theorem qU.keep(H:qU h v ps)(hk:∀b,zh v=some b->h' b=h b):qU h' v ps:=by
 obtain⟨b,sp,T,rfl,hb⟩:=H;exact⟨b,sp,T,rfl,by rw[hk b rfl];exact hb⟩
theorem qU.held(H:qU h v ps):∀b,zh v=some b->h b≠none:=by
 obtain⟨b,sp,T,rfl,hb⟩:=H;intro b' hb';cases hb';rw[hb];simp
theorem qU.VA(H:qU h (.slice a l c) ps)(hs:∀b,zh (.slice a l c)=some b->¬S b)(hi:ps[i]? = some (x,y))(z:Int) :
  xE S h ((((a.getD default).add (i*2)).add 0).add 0)/\qU (zQ h ((((a.getD default).add (i*2)).add 0).add 0) (.int .i64 z)) (.slice a l c) (ps.set i (z,y)) /\
  ∀w,zh (.slice a l c)≠some w->zQ h ((((a.getD default).add (i*2)).add 0).add 0) (.int .i64 z) w=h w:=by
 obtain⟨b,sp,T,e,hb⟩:=H;cases e
 have hsb:=hs b rfl;have hlt:=(List.getElem?_eq_some_iff.1 hi).1;have e1:((((some (⟨b,0,none⟩:Addr)).getD default).add (i*2)).add 0).add 0=(⟨b,i*2,none⟩:Addr):=by
  rw[add_add,add_add,Option.getD_some,zu];simp
 have hi2:(ps++sp)[i]? = some (x,y):=by rw[List.getElem?_append_left hlt];exact hi
 have hsz:(xm (ps++sp)).size=(ps++sp).length*2:=JY _;rw[e1,hset_cells' hb];have e2:(xm (ps++sp)).setIfInBounds (i*2) (.int .i64 z)=xm (ps.set i (z,y)++sp):=by
  unfold xm;rw[List.setIfInBounds_toArray,QP x y hi2,List.set_append_left _ _ hlt]
 refine⟨⟨⟨(xm (ps++sp))[i*2]'(by rw[hsz];simp;omega),by simp[zj,hb]⟩,by simp[yN,hb],hsb⟩,⟨b,sp,T,by simp,by rw[upd_same,e2]⟩,fun w hw=>upd_ne fun e=>hw (by rw[e];rfl)⟩
theorem qU.VB(H:qU h (.slice a l c) ps)(hs:∀b,zh (.slice a l c)=some b->¬S b)(hi:ps[i]? = some (x,y))(z:Int) :
  xE S h ((((a.getD default).add (i*2)).add 1).add 0)/\qU (zQ h ((((a.getD default).add (i*2)).add 1).add 0) (.int .i64 z)) (.slice a l c) (ps.set i (x,z)) /\
  ∀w,zh (.slice a l c)≠some w->zQ h ((((a.getD default).add (i*2)).add 1).add 0) (.int .i64 z) w=h w:=by
 obtain⟨b,sp,T,e,hb⟩:=H;cases e
 have hsb:=hs b rfl;have hlt:=(List.getElem?_eq_some_iff.1 hi).1;have e1:((((some (⟨b,0,none⟩:Addr)).getD default).add (i*2)).add 1).add 0=(⟨b,i*2+1,none⟩:Addr):=by
  rw[add_add,add_add,Option.getD_some,zu];simp
 have hi2:(ps++sp)[i]? = some (x,y):=by rw[List.getElem?_append_left hlt];exact hi
 have hsz:(xm (ps++sp)).size=(ps++sp).length*2:=JY _;rw[e1,hset_cells' hb];have e2:(xm (ps++sp)).setIfInBounds (i*2+1) (.int .i64 z)=xm (ps.set i (x,z)++sp):=by
  unfold xm;rw[List.setIfInBounds_toArray,QQ x y hi2,List.set_append_left _ _ hlt]
 refine⟨⟨⟨(xm (ps++sp))[i*2+1]'(by rw[hsz];simp;omega),by simp[zj,hb]⟩,by simp[yN,hb],hsb⟩,⟨b,sp,T,by simp,by rw[upd_same,e2]⟩,fun w hw=>upd_ne fun e=>hw (by rw[e];rfl)⟩
theorem Eu{ad:Addr}:∀(zs:List Value) (i:Nat),(∀j x,zs[j]? = some x->zj h (ad.add (i+j))=some x)->zq h ad i zs
 | [],_,_=>trivial
 | z::r,i,hz=>⟨by simpa using hz 0 z rfl,Eu r (i+1) fun j x hx=>by
   have:=hz (j+1) x (by simpa using hx)
   rwa[show i+(j+1)=i+1+j by omega]at this⟩
theorem qT.cells(H:qT h a qs):qc h a (qs.flatMap pw):=by
 unfold qc;cases a with
 | none=>
  cases qs with
  | nil=>rfl
  | cons y r=>obtain⟨ad,h1,_⟩:=H 0 y rfl;cases h1
 | some ad=>
  refine Eu _ 0 fun j x hx=>?_
  have hj:j<qs.length*2:=by rw[<-AK];exact(List.getElem?_eq_some_iff.1 hx).1
  have hq:qs[j/2]? = some (qs[j/2]'(by omega)):=List.getElem?_eq_getElem (by omega);obtain⟨ad',e,h1,h2⟩:=H _ _ hq;cases e
  have hg:=JZ hq;rw[Nat.zero_add];rcases Nat.mod_two_eq_zero_or_one j with h | h
  ·have e2:j=j/2*2:=by omega
   rw[e2,hg.1]at hx;rw[e2,<-hx];exact h1
  ·have e2:j=j/2*2+1:=by omega
   rw[e2,hg.2]at hx;rw[e2,<-hx];exact h2
theorem TG{ty:TypeId}{byt:Nat}{a:Option Addr}{K:Value->Heap->Prop}(hi:Inv S h0)(hsub:Sub h0 h)(hs:qU h v ps)(hn:New h0 v)(hx:qT h a qs)
  (hl:(ps.length+qs.length)*byt<=140737488355328)
  (hK:∀v' h',qU h' v' (ps++qs)->New h0 v'->Sub h0 h'->(∀b,h b≠none->zh v≠some b->h' b=h b)->(zh v'=zh v\/New h v')->K v' h') :
  appW S ty 2 byt [.int .i64 0,.int .i64 0] v (.slice a qs.length c) h K:=by
 obtain⟨b,sp,T,rfl,hb⟩:=hs;have hb0:h0 b=none:=hn b rfl;have hsb:¬S b:=fun hs=>hi b hs hb0
 refine⟨qs.flatMap pw,by rw[AK];rfl,hx.cells,fun v hv=>?_,fun hroom=>?_,fun hgrow=>?_⟩
 ·obtain⟨q,_,hv⟩:=List.mem_flatMap.1 hv;simp only[pw,List.mem_cons,List.not_mem_nil,or_false]at hv;rcases hv with rfl | rfl <;> exact MM
 ·simp only[slA,slL,slC]at hroom ⊢;have e0:(⟨b,0,none⟩:Addr).add (ps.length*2)=⟨b,ps.length*2,none⟩:=yR _;rw[e0];refine Et hsb (qs.flatMap pw) 0 h ((ps++sp).flatMap pw) hb (by rw[AK,AK];simp;omega) ?_;have e1:kO ((ps++sp).flatMap pw) (ps.length*2+0) (qs.flatMap pw)=((ps++qs)++sp.drop qs.length).flatMap pw:=by
   unfold kO;have t1:((ps++sp).flatMap pw).take (ps.length*2)=ps.flatMap pw:=by rw[List.flatMap_append,List.take_left' (AK _)]
   have t2:∀(zs:List (Int×Int)) n,(zs.flatMap pw).drop (n*2)=(zs.drop n).flatMap pw:=by
    intro zs;induction zs with
    | nil=>intro n;simp
    | cons z r ih=>
     intro n;cases n with
     | zero=>simp
     | succ n=>
      rw[List.drop_succ_cons,<-ih n,vF,show(n+1)*2=n*2+2 by omega];rfl
   rw[Nat.add_zero,t1,AK,show ps.length*2+qs.length*2=(ps.length+qs.length)*2 by omega,t2,List.drop_length_add_append];simp[List.flatMap_append]
  rw[e1];refine hK _ _ ⟨b,sp.drop qs.length,T,?_,upd_same⟩ (New.of hb0) ?_ (fun x hx hne=>upd_ne fun e=>hne (by rw[e];rfl)) (.inl rfl)
  ·simp;omega
  ·intro x o hx;rw[upd_ne (fun e=>by rw[e,hb0]at hx;cases hx)];exact hsub x o hx
 ·simp only[slA,slL,slC]at hgrow ⊢;refine⟨growslice_fits (by omega) hl,ps.flatMap pw,by rw[AK],(qT.of hb).cells,fun nc d hnc hd=>?_⟩;have hd0:h0 d=none:=by
   cases hh:h0 d with
   | none=>rfl
   | some o=>rw[hsub d o hh]at hd;cases hd
  have e1:((ps.flatMap pw).toArray++(qs.flatMap pw).toArray++Builtin.zeroCells ([.int .i64 0,.int .i64 0]:List Value).toArray (nc-(ps.length+qs.length)))=xm ((ps++qs)++List.replicate (nc-(ps.length+qs.length)) (0,0)):=by
   rw[Qv];simp[xm]
  rw[e1];refine hK _ _ ⟨d,List.replicate (nc-(ps.length+qs.length)) (0,0),ty,?_,by simp[upd]⟩ (New.of hd0) ?_ (fun x hx hne=>?_) (.inr (New.of hd))
  ·simp;omega
  ·intro x o hx;have:x≠d:=fun e=>by rw[e,hd0]at hx;cases hx
   rw[upd_ne this];exact hsub x o hx
  ·have:x≠d:=fun e=>hx (e▸hd)
   exact upd_ne this
end
end Go.Eng
namespace Go.Eng
structure TI(E:Nat->Nat->Prop)(Y:Nat->Nat->Nat)(T P:List (Nat×Nat)):Prop where
 len:P.length=T.length
 root:P[0]? = some (0,0)
 inj:∀ {j k:Nat} {p:Nat×Nat},P[j]? = some p->P[k]? = some p->j=k
 kid:∀ {k s q l v:Nat},T[k]? = some (s,q)->P[k]? = some (l,v)->q≠0->P[q]? = some (l+1,v)/\P[q+1]? = some (l+1,v+2^l)
 par:∀ {j l v:Nat},P[j]? = some (l+1,v)->∃k s q:Nat,P[k]? = some (l,v%2^l)/\T[k]? = some (s,q)/\q≠0
 ext:∀ {k s q l v:Nat},T[k]? = some (s,q)->P[k]? = some (l,v)->(q≠0<->E l v)
 sym:∀ {k s q l v:Nat},T[k]? = some (s,q)->P[k]? = some (l,v)->s=Y l v
 lt:∀ {k l v:Nat},P[k]? = some (l,v)->v<2^l
theorem TI.start:TI (fun _ _=>False) (fun _ _=>0) [(0,0)] [(0,0)]:=by
 refine⟨rfl,rfl,?_,?_,?_,?_,?_,?_⟩
 ·intro j k p h1 h2;have h1:=(List.getElem?_eq_some_iff.1 h1).1;have h2:=(List.getElem?_eq_some_iff.1 h2).1;simp at h1 h2;omega
 ·intro k s q l v h1 _ hq;have hk:=(List.getElem?_eq_some_iff.1 h1).1;obtain rfl:k=0:=by simpa using hk
  simp at h1;omega
 ·intro j l v h;have hk:=(List.getElem?_eq_some_iff.1 h).1;obtain rfl:j=0:=by simpa using hk
  simp at h
 ·intro k s q l v h1 _;have hk:=(List.getElem?_eq_some_iff.1 h1).1;obtain rfl:k=0:=by simpa using hk
  simp at h1;simp[<-h1.2]
 ·intro k s q l v h1 _;have hk:=(List.getElem?_eq_some_iff.1 h1).1;obtain rfl:k=0:=by simpa using hk
  simp at h1;omega
 ·intro k l v h;have hk:=(List.getElem?_eq_some_iff.1 h).1;obtain rfl:k=0:=by simpa using hk
  simp at h;obtain⟨rfl,rfl⟩:=h;decide
variable {l v:Nat}
theorem EL(h:v<2^l):v%2^l=v:=Nat.mod_eq_of_lt h
theorem De(h:v<2^l):(v+2^l)%2^l=v:=by rw[Nat.add_mod_right];exact Nat.mod_eq_of_lt h
variable {P T:List (Nat×Nat)}
theorem TI.congr{E E':Nat->Nat->Prop}{Y Y':Nat->Nat->Nat}(H:TI E Y T P)(hE:∀l v,v<2^l->(E l v<->E' l v))(hY:∀l v,v<2^l->Y l v=Y' l v):TI E' Y' T P where
 len:=H.len
 root:=H.root
 inj:=H.inj
 kid:=H.kid
 par:=H.par
 ext h1 h2:=(H.ext h1 h2).trans (hE _ _ (H.lt h2))
 sym h1 h2:=(H.sym h1 h2).trans (hY _ _ (H.lt h2))
 lt:=H.lt
variable {Y:Nat->Nat->Nat}{k:Nat}
theorem TI.get{E:Nat->Nat->Prop}(H:TI E Y T P){p:Nat×Nat}(h:P[k]? = some p):∃s q,T[k]? = some (s,q):=by
 have hk:=(List.getElem?_eq_some_iff.1 h).1;rw[H.len]at hk;exact⟨T[k].1,T[k].2,List.getElem?_eq_getElem hk⟩
theorem TI.grow{E:Nat->Nat->Prop}(H:TI E Y T P){k s l v:Nat}(hT:T[k]? = some (s,0))(hP:P[k]? = some (l,v))
  (hE:∀l v,v<2^(l+1)->E (l+1) v->E l (v%2^l))(hY:∀l v,v<2^(l+1)->Y (l+1) v≠0->E l (v%2^l)) :
  TI (fun l' v'=>E l' v'\/(l'=l/\v'=v)) Y (T.set k (s,T.length)++[(0,0),(0,0)]) (P++[(l+1,v),(l+1,v+2^l)]):=by
 have hk:=(List.getElem?_eq_some_iff.1 hT).1;have hv:=H.lt hP;have hnE:¬E l v:=fun h=>(H.ext hT hP).2 h rfl
 have hTl:T.length≠0:=by omega
 have hpow:2^(l+1)=2*2^l:=by rw[Nat.pow_succ];omega
 have hno:∀ {j v'},P[j]? = some (l+1,v')->v'%2^l=v->False:=fun {j v'} hj e=>by
  obtain⟨k',s',q',h1,h2,h3⟩:=H.par hj;rw[e]at h1;have:=H.inj h1 hP;subst this;rw[hT]at h2;simp at h2;exact h3 h2.2.symm
 have oldP:∀ {j p},P[j]? = some p->(P++[(l+1,v),(l+1,v+2^l)])[j]? = some p:=fun {j p} h=>by
  rw[List.getElem?_append_left (List.getElem?_eq_some_iff.1 h).1];exact h
 have new0:(P++[(l+1,v),(l+1,v+2^l)])[T.length]? = some (l+1,v):=by rw[List.getElem?_append_right (by rw[H.len];omega),H.len,Nat.sub_self];rfl
 have new1:(P++[(l+1,v),(l+1,v+2^l)])[T.length+1]? = some (l+1,v+2^l):=by rw[List.getElem?_append_right (by rw[H.len];omega),H.len,Nat.add_sub_cancel_left];rfl
 have casesP:∀ {j p},(P++[(l+1,v),(l+1,v+2^l)])[j]? = some p->(P[j]? = some p/\j<T.length)\/(j=T.length/\p=(l+1,v))\/(j=T.length+1/\p=(l+1,v+2^l)):=fun {j p} h=>by
  have hj:=(List.getElem?_eq_some_iff.1 h).1;simp only[List.length_append,List.length_cons,List.length_nil,H.len]at hj;rcases Nat.lt_or_ge j T.length with h1 | h1
  ·rw[List.getElem?_append_left (by rw[H.len];omega)]at h;exact .inl ⟨h,h1⟩
  ·rcases(show j=T.length\/j=T.length+1 by omega)with rfl | rfl
   ·rw[new0]at h;exact .inr (.inl ⟨rfl,(Option.some.inj h).symm⟩)
   ·rw[new1]at h;exact .inr (.inr ⟨rfl,(Option.some.inj h).symm⟩)
 have casesT:∀ {j e},(T.set k (s,T.length)++[(0,0),(0,0)])[j]? = some e->(j=k/\e=(s,T.length))\/(j≠k/\j<T.length/\T[j]? = some e)\/((j=T.length\/j=T.length+1)/\e=(0,0)):=fun {j e} h=>by
  have hj:=(List.getElem?_eq_some_iff.1 h).1;simp only[List.length_append,List.length_cons,List.length_nil,List.length_set]at hj;rcases Nat.lt_or_ge j T.length with h1 | h1
  ·rw[List.getElem?_append_left (by rw[List.length_set];exact h1),List.getElem?_set]at h;by_cases he:k=j
   ·subst he;rw[if_pos rfl,if_pos h1]at h;exact .inl ⟨rfl,(Option.some.inj h).symm⟩
   ·rw[if_neg he]at h;exact .inr (.inl ⟨fun e=>he e.symm,h1,h⟩)
  ·rw[List.getElem?_append_right (by rw[List.length_set];exact h1),List.length_set]at h;rcases(show j=T.length\/j=T.length+1 by omega)with rfl | rfl
   ·rw[Nat.sub_self]at h;exact .inr (.inr ⟨.inl rfl,(Option.some.inj h).symm⟩)
   ·rw[Nat.add_sub_cancel_left]at h;exact .inr (.inr ⟨.inr rfl,(Option.some.inj h).symm⟩)
 refine⟨by simp[H.len],oldP H.root,?_,?_,?_,?_,?_,?_⟩
 ·intro j j' p h1 h2;rcases casesP h1 with⟨a1,a2⟩ | ⟨rfl,rfl⟩ | ⟨rfl,rfl⟩ <;> rcases casesP h2 with⟨b1,b2⟩ | ⟨rfl,e⟩ | ⟨rfl,e⟩
  ·exact H.inj a1 b1
  ·subst e;exact(hno a1 (EL hv)).elim
  ·subst e;exact(hno a1 (De hv)).elim
  ·exact(hno b1 (EL hv)).elim
  ·rfl
  ·simp at e
  ·exact(hno b1 (De hv)).elim
  ·simp at e
  ·rfl
 ·intro j s' q l' v' h1 h2 hq;rcases casesT h1 with⟨rfl,e⟩ | ⟨hne,hlt,h1⟩ | ⟨hj,e⟩
  ·simp only[Prod.mk.injEq]at e;obtain⟨rfl,rfl⟩:=e;have:=oldP hP;rw[h2]at this;simp only[Option.some.injEq,Prod.mk.injEq]at this;obtain⟨rfl,rfl⟩:=this;exact⟨new0,new1⟩
  ·rcases casesP h2 with⟨a1,a2⟩ | ⟨rfl,_⟩ | ⟨rfl,_⟩
   ·have:=H.kid h1 a1 hq;exact⟨oldP this.1,oldP this.2⟩
   ·omega
   ·omega
  ·simp only[Prod.mk.injEq]at e;exact absurd e.2 hq
 ·intro j l' v' h;rcases casesP h with⟨a1,a2⟩ | ⟨rfl,e⟩ | ⟨rfl,e⟩
  ·obtain⟨k',s',q',b1,b2,b3⟩:=H.par a1;refine⟨k',?_⟩;by_cases he:k'=k
   ·subst he;exact⟨s,T.length,oldP b1,by rw[List.getElem?_append_left (by rw[List.length_set];exact hk),List.getElem?_set_self hk],hTl⟩
   ·have hk':=(List.getElem?_eq_some_iff.1 b2).1;exact⟨s',q',oldP b1,by rw[List.getElem?_append_left (by rw[List.length_set];exact hk'),List.getElem?_set_ne (fun e=>he e.symm)];exact b2,b3⟩
  ·simp only[Prod.mk.injEq,Nat.add_right_cancel_iff]at e;obtain⟨rfl,rfl⟩:=e;exact⟨k,s,T.length,by rw[EL hv];exact oldP hP,by rw[List.getElem?_append_left (by rw[List.length_set];exact hk),List.getElem?_set_self hk],hTl⟩
  ·simp only[Prod.mk.injEq,Nat.add_right_cancel_iff]at e;obtain⟨rfl,rfl⟩:=e;exact⟨k,s,T.length,by rw[De hv];exact oldP hP,by rw[List.getElem?_append_left (by rw[List.length_set];exact hk),List.getElem?_set_self hk],hTl⟩
 ·intro j s' q l' v' h1 h2;rcases casesT h1 with⟨rfl,e⟩ | ⟨hne,hlt,h1⟩ | ⟨hj,e⟩
  ·simp only[Prod.mk.injEq]at e;obtain⟨rfl,rfl⟩:=e;have:=oldP hP;rw[h2]at this;simp only[Option.some.injEq,Prod.mk.injEq]at this;obtain⟨rfl,rfl⟩:=this;exact⟨fun _=>.inr ⟨rfl,rfl⟩,fun _=>hTl⟩
  ·rcases casesP h2 with⟨a1,a2⟩ | ⟨rfl,_⟩ | ⟨rfl,_⟩
   ·refine(H.ext h1 a1).trans ⟨.inl,fun h=>h.elim id fun⟨e1,e2⟩=>?_⟩;subst e1;subst e2;exact(hne (H.inj a1 hP)).elim
   ·omega
   ·omega
  ·simp only[Prod.mk.injEq]at e;obtain⟨rfl,rfl⟩:=e;rcases casesP h2 with⟨a1,a2⟩ | ⟨rfl,e⟩ | ⟨rfl,e⟩
   ·omega
   ·simp only[Prod.mk.injEq]at e;obtain⟨rfl,rfl⟩:=e;refine⟨fun h=>(h rfl).elim,fun h=>h.elim (fun h=>?_) (fun h=>by omega)⟩;have:=hE l v' (by omega) h;rw[EL hv]at this;exact(hnE this).elim
   ·simp only[Prod.mk.injEq]at e;obtain⟨rfl,rfl⟩:=e;refine⟨fun h=>(h rfl).elim,fun h=>h.elim (fun h=>?_) (fun h=>by omega)⟩;have:=hE l _ (by omega) h;rw[De hv]at this;exact(hnE this).elim
 ·intro j s' q l' v' h1 h2;rcases casesT h1 with⟨rfl,e⟩ | ⟨hne,hlt,h1⟩ | ⟨hj,e⟩
  ·simp only[Prod.mk.injEq]at e;obtain⟨rfl,rfl⟩:=e;have:=oldP hP;rw[h2]at this;simp only[Option.some.injEq,Prod.mk.injEq]at this;obtain⟨rfl,rfl⟩:=this;exact H.sym hT hP
  ·rcases casesP h2 with⟨a1,a2⟩ | ⟨rfl,_⟩ | ⟨rfl,_⟩
   ·exact H.sym h1 a1
   ·omega
   ·omega
  ·simp only[Prod.mk.injEq]at e;obtain⟨rfl,rfl⟩:=e;rcases casesP h2 with⟨a1,a2⟩ | ⟨rfl,e⟩ | ⟨rfl,e⟩
   ·omega
   ·simp only[Prod.mk.injEq]at e;obtain⟨rfl,rfl⟩:=e;refine Classical.byContradiction fun h=>?_
    have:=hY l v' (by omega) (fun e=>h e.symm);rw[EL hv]at this;exact hnE this
   ·simp only[Prod.mk.injEq]at e;obtain⟨rfl,rfl⟩:=e;refine Classical.byContradiction fun h=>?_
    have:=hY l _ (by omega) (fun e=>h e.symm);rw[De hv]at this;exact hnE this
 ·intro j l' v' h;rcases casesP h with⟨a1,a2⟩ | ⟨rfl,e⟩ | ⟨rfl,e⟩
  ·exact H.lt a1
  ·simp only[Prod.mk.injEq]at e;obtain⟨rfl,rfl⟩:=e;omega
  ·simp only[Prod.mk.injEq]at e;obtain⟨rfl,rfl⟩:=e;omega
theorem TI.put{E:Nat->Nat->Prop}{Y:Nat->Nat->Nat}{T P:List (Nat×Nat)}(H:TI E Y T P){k s q l v:Nat}(hT:T[k]? = some (s,q))(hP:P[k]? = some (l,v))(y:Nat) :
  TI E (fun l' v'=>if l'=l/\v'=v then y else Y l' v') (T.set k (y,q)) P:=by
 have hk:=(List.getElem?_eq_some_iff.1 hT).1;have casesT:∀ {j e},(T.set k (y,q))[j]? = some e->(j=k/\e=(y,q))\/(j≠k/\T[j]? = some e):=fun {j e} h=>by
  rw[List.getElem?_set]at h;by_cases he:k=j
  ·subst he;rw[if_pos rfl,if_pos hk]at h;exact .inl ⟨rfl,(Option.some.inj h).symm⟩
  ·rw[if_neg he]at h;exact .inr ⟨fun e=>he e.symm,h⟩
 refine⟨by rw[List.length_set];exact H.len,H.root,H.inj,?_,?_,?_,?_,H.lt⟩
 ·intro j s' q' l' v' h1 h2 hq;rcases casesT h1 with⟨rfl,e⟩ | ⟨_,h1⟩
  ·simp only[Prod.mk.injEq]at e;obtain⟨rfl,rfl⟩:=e;exact H.kid hT h2 hq
  ·exact H.kid h1 h2 hq
 ·intro j l' v' h;obtain⟨k',s',q',b1,b2,b3⟩:=H.par h;by_cases he:k'=k
  ·subst he;rw[hT]at b2;simp only[Option.some.injEq,Prod.mk.injEq]at b2;obtain⟨rfl,rfl⟩:=b2;exact⟨k',y,q,b1,List.getElem?_set_self hk,b3⟩
  ·exact⟨k',s',q',b1,by rw[List.getElem?_set_ne (fun e=>he e.symm)];exact b2,b3⟩
 ·intro j s' q' l' v' h1 h2;rcases casesT h1 with⟨rfl,e⟩ | ⟨_,h1⟩
  ·simp only[Prod.mk.injEq]at e;obtain⟨rfl,rfl⟩:=e;exact H.ext hT h2
  ·exact H.ext h1 h2
 ·intro j s' q' l' v' h1 h2;rcases casesT h1 with⟨rfl,e⟩ | ⟨hne,h1⟩
  ·simp only[Prod.mk.injEq]at e;obtain⟨rfl,rfl⟩:=e;rw[hP]at h2;simp only[Option.some.injEq,Prod.mk.injEq]at h2;obtain⟨rfl,rfl⟩:=h2;simp
  ·rw[if_neg]
   ·exact H.sym h1 h2
   ·rintro⟨rfl,rfl⟩;exact hne (H.inj h2 hP)
end Go.Eng
namespace Go.Eng
open Go
def F8(h:Heap)(a:Option Addr)(vs:List Value):Prop:=∀(i:Nat) v,vs[i]? = some v->∃ad,a=some ad/\zj h (ad.add i)=some v
def An(h:Heap)(v:Value)(vs:List Value):Prop:=
 ∃b sp T,v=.slice (some ⟨b,0,none⟩) vs.length (vs.length+sp.length)/\h b=some (.cells (vs++sp).toArray T)
theorem ID(n:Nat)(z:Value):yl n (([z]:List Value).toArray)=(List.replicate n z).toArray:=by
 apply Array.ext_getElem?;intro i;simp only[yl,Array.getElem?_map,List.getElem?_toArray,List.getElem?_replicate];by_cases hi:i<n
 ·simp[hi,Nat.mod_one]
 ·simp[hi]
theorem Nw(n:Nat)(z:Value):Builtin.zeroCells ([z]:List Value).toArray n=(List.replicate n z).toArray:=by
 have:=ID n z;unfold yl at this;unfold Builtin.zeroCells;simpa using this
variable {a:Option Addr}
theorem Sd{l c:Nat}:Bt (.slice a l c):=⟨rfl,by simp,by simp⟩
variable {b c:Nat}{T:TypeId}
section
variable {h h0 h' : Heap}{v:Value}{vs:List Value}
theorem F8.cell(H:F8 h a vs){i:Nat}{v:Value}(hp:vs[i]? = some v):zj h ((a.getD default).add i)=some v/\a.isSome=true:=by
 obtain⟨ad,rfl,h1⟩:=H i v hp;exact⟨h1,rfl⟩
theorem F8.of{sp:List Value}(hb:h b=some (.cells (vs++sp).toArray T)):F8 h (some ⟨b,0,none⟩) vs:=fun i v hv=>by
 have hp2:(vs++sp)[i]? = some v:=by rw[List.getElem?_append_left (List.getElem?_eq_some_iff.1 hv).1];exact hv
 exact⟨_,rfl,by rw[yR];simp only[zj,hb,List.getElem?_toArray];exact hp2⟩
theorem An.vals(H:An h v vs):∃a c,v=.slice a vs.length c/\vs.length<=c/\F8 h a vs:=by
 obtain⟨b,sp,T,rfl,hb⟩:=H;exact⟨_,_,rfl,by omega,F8.of hb⟩
theorem An.keep(H:An h v vs)(hk:∀b,zh v=some b->h' b=h b):An h' v vs:=by
 obtain⟨b,sp,T,rfl,hb⟩:=H;exact⟨b,sp,T,rfl,by rw[hk b rfl];exact hb⟩
theorem An.held(H:An h v vs):∀b,zh v=some b->h b≠none:=by
 obtain⟨b,sp,T,rfl,hb⟩:=H;intro b' hb';cases hb';rw[hb];simp
theorem An.made(vs:List Value):An (upd h b (.cells vs.toArray T)) (.slice (some ⟨b,0,none⟩) vs.length vs.length) vs:=
 ⟨b,[],T,by simp,by simp[upd]⟩
theorem TH{S:Shared}{ty:TypeId}{byt:Nat}{u z:Value}{K:Value->Heap->Prop}(hi:Inv S h0)(hsub:Sub h0 h)(hs:An h v vs)(hn:New h0 v)(hx:F8 h a [u])(h1:Bt u)
  (hl:(vs.length+1)*byt<=140737488355328)
  (hK:∀v' h',An h' v' (vs++[u])->New h0 v'->Sub h0 h'->(∀b,h b≠none->zh v≠some b->h' b=h b)->(zh v'=zh v\/New h v')->K v' h') :
  appW S ty 1 byt [z] v (.slice a 1 c) h K:=by
 obtain⟨b,sp,T,rfl,hb⟩:=hs;have hb0:h0 b=none:=hn b rfl;have hsb:¬S b:=fun hs=>hi b hs hb0
 obtain⟨ad,rfl,g1⟩:=hx 0 u rfl;refine⟨[u],rfl,⟨by simpa using g1,trivial⟩,fun v hv=>by simp only[List.mem_singleton]at hv;subst hv;exact h1,fun hroom=>?_,fun hgrow=>?_⟩
 ·simp only[slA,slL,slC]at hroom ⊢;have e0:(⟨b,0,none⟩:Addr).add (vs.length*1)=⟨b,vs.length,none⟩:=by rw[Nat.mul_one,yR]
  rw[e0];refine Et hsb [u] 0 h (vs++sp) hb (by simp;omega) ?_;have e1:kO (vs++sp) (vs.length+0) [u]=(vs++[u])++sp.drop 1:=by
   simp[kO,List.drop_append,List.append_assoc]
  rw[e1];refine hK _ _ ⟨b,sp.drop 1,T,?_,upd_same⟩ (New.of hb0) ?_ (fun x hx hne=>upd_ne fun e=>hne (by rw[e];rfl)) (.inl rfl)
  ·simp;omega
  ·intro x o hx;rw[upd_ne (fun e=>by rw[e,hb0]at hx;cases hx)];exact hsub x o hx
 ·simp only[slA,slL,slC]at hgrow ⊢;refine⟨growslice_fits (by omega) hl,vs,by simp,Eu _ 0 fun j x hx=>?_,fun nc d hnc hd=>?_⟩
  ·rw[yR,Nat.zero_add];simp only[zj,hb,List.getElem?_toArray];rw[List.getElem?_append_left (List.getElem?_eq_some_iff.1 hx).1];exact hx
  ·have hd0:h0 d=none:=by
    cases hh:h0 d with
    | none=>rfl
    | some o=>rw[hsub d o hh]at hd;cases hd
   have e1:(vs.toArray++[u].toArray++Builtin.zeroCells ([z]:List Value).toArray (nc-(vs.length+1)))=((vs++[u])++List.replicate (nc-(vs.length+1)) z).toArray:=by
    rw[Nw];simp
   rw[e1];refine hK _ _ ⟨d,List.replicate (nc-(vs.length+1)) z,ty,?_,by simp[upd]⟩ (New.of hd0) ?_ (fun x hx hne=>?_) (.inr (New.of hd))
   ·simp;omega
   ·intro x o hx;have:x≠d:=fun e=>by rw[e,hd0]at hx;cases hx
    rw[upd_ne this];exact hsub x o hx
   ·have:x≠d:=fun e=>hx (e▸hd)
    exact upd_ne this
end
theorem OP{y m:Int}(hm:0<=m/\m<=2147483647):0<=Go.bits .and .i64 y m/\Go.bits .and .i64 y m<=m:=by
 obtain⟨n,rfl⟩:=Int.eq_ofNat_of_zero_le hm.1;have hn:n<=2147483647:=by omega
 have h2:(BitVec.ofInt 64 (n:Int)).toNat=n:=by
  rw[BitVec.ofInt_natCast,BitVec.toNat_ofNat];exact Nat.mod_eq_of_lt (by omega)
 show 0<=IntKind.i64.wrap ((BitVec.ofInt 64 y &&& BitVec.ofInt 64 (n:Int)).toNat:Int)/\IntKind.i64.wrap ((BitVec.ofInt 64 y &&& BitVec.ofInt 64 (n:Int)).toNat:Int)<=n;rw[BitVec.toNat_and,h2];have h3:(BitVec.ofInt 64 y).toNat &&& n<=n:=Nat.and_le_right;rw[Go.IntWalk.i64_in _ (by omega)];omega
theorem zr{a b:Int}(h : -9223372036854775808<=a/\a<=9223372036854775807/\a=b:=by omega):IntKind.i64.wrap a=b:=by
 rw[Go.IntWalk.i64_in _ (by omega),h.2.2]
end Go.Eng
namespace Go.Eng
open Go
theorem Part.put{S:Shared}{k:IntKind}{h:Heap}{v:Value}{xs:List Int}(H:Part k h v xs)(hs:∀b,zh v=some b->¬S b){i:Nat}(hi:i<xs.length)(x:Int){K:Heap->Prop}
  (hK:∀h',Part k h' v (xs.set i x)->(∀b,zh v≠some b->h' b=h b)->K h'):yk S (((slA v).getD default).add (i*1)) 0 [.int k x] h K:=by
 rcases H with⟨rfl,rfl⟩ | ⟨b,pr,sp,re,T,rfl,hb⟩
 ·simp at hi
 have hsb:=hs b rfl;rw[zd,Option.getD_some,Nat.mul_one,zu];refine wW (T:=T) (k:=k) hsb [x] 0 h (pr++xs++sp++re) hb (by simp;omega) ?_;refine hK _ (.inr ⟨b,pr,sp,re,T,by rw[List.length_set],?_⟩) fun b' hb'=>upd_ne fun e=>hb' (by rw[e];rfl)
 rw[upd_same];congr 3;unfold kM;have e1:(pr++xs++sp++re).take (pr.length+i+0)=pr++xs.take i:=by
  rw[Nat.add_zero,List.append_assoc,List.append_assoc,List.take_length_add_append,List.take_append_of_le_length (by omega)]
 have e2:(pr++xs++sp++re).drop (pr.length+i+0 + [x].length)=xs.drop (i+1)++sp++re:=by
  rw[List.append_assoc,List.append_assoc,show pr.length+i+0 + [x].length=pr.length+(i+1) by simp;omega,List.drop_length_add_append,List.drop_append_of_le_length (by omega),List.append_assoc]
 rw[e1,e2,List.set_eq_take_append_cons_drop,if_pos hi];simp[List.append_assoc]
end Go.Eng
namespace Go.Eng
open Go
def xn(P:Program)(S:Shared)(h:Heap)(B:Nat){α:Type}:Sem α->List Value->World->(α->World->Prop)->Prop
 | .pure a,_,w,K=>K a w
 | .load m a k,v::vs,w,K=>m=.plain/\(h a.block≠none\/B<=a.block)/\w.cell? a=some v/\xn P S h B (k v) vs w K
 | .store m a v k,vs,w,K=>m=.plain/\(h a.block≠none\/B<=a.block)/\¬S a.block/\(∃u,w.cell? a=some u)/\w.frozen? a=false/\v.cells=#[v]/\(∀x,v ≠ .tuple x)/\(∀x,v ≠ .agg x) /\
   xn P S h B k vs (w.setCell a v) K
 | .new o k,vs,w,K=>xn P S h B (k w.heap.size) vs { w with heap:=w.heap.push o } K
 | .program k,vs,w,K=>xn P S h B (k P) vs w K
 | .mark m k,vs,w,K=>Quiet m/\xn P S h B k vs w K
 | _,_,_,_=>False
variable {P:Program}{S:Shared}{h:Heap}
theorem Se{B:Nat}{α:Type}(s:Sem α):∀ {vs:List Value} {w:World} {K:α->World->Prop},xn P S h B s vs w K->wpE P S h B s w K:=by
 induction s with
 | pure a=>exact fun H=>H
 | load m a k ih=>
  intro vs w K H;cases vs with
  | nil=>exact H.elim
  | cons v vs=>obtain⟨h1,h2,h3,H⟩:=H;exact⟨h1,h2,v,h3,ih v H⟩
 | store m a v k ih=>rintro vs w K ⟨h1,h2,h3,h4,h5,h6,h7,h8,H⟩;exact⟨h1,h2,h3,h4,h5,h6,h7,h8,ih H⟩
 | new o k ih=>exact fun H=>ih _ H
 | program k ih=>exact fun H=>ih _ H
 | mark m k ih=>exact fun H=>⟨H.1,ih H.2⟩
 | shape r k ih=>exact fun H=>H.elim
 | freeze a n k ih=>exact fun H=>H.elim
 | frozen a k ih=>exact fun H=>H.elim
 | getObj r k ih=>exact fun H=>H.elim
 | setObj r o k ih=>exact fun H=>H.elim
 | choose q k ih=>exact fun H=>H.elim
 | sys c k ih=>exact fun H=>H.elim
 | halt h=>exact fun H=>H.elim
variable {u x:Value}{k:IntKind}{T:TypeId}
section
variable {f:FuncId}{args:Array Value}
theorem zb.NW{R:Value->Heap->Prop}(vs:List Value)(H:∀w,Has w h->xn P S h w.heap.size (callFunc f args) vs w fun n w'=>∃v h',n=.value v/\Inv S h'/\Kept S h h' w w'/\R v h'):zb P S f args h R:=
 .inr fun w hw=>Se _ (H w hw)
theorem F9(hi:Inv S h)(E:∀(w:World) (K:Next->World->Prop),xn P S h w.heap.size (callFunc f args) [] w K=(True/\K (.value x) w)) :
  zb P S f args h (fun v h'=>v=x/\h'=h):=
 .NW [] fun w hw=>by rw[E];exact⟨trivial,x,h,rfl,hi,.refl hw,rfl,rfl⟩
theorem OQ{x:Nat->Value}{o:Obj}(hi:Inv S h)
  (E:∀(w:World) (K:Next->World->Prop),xn P S h w.heap.size (callFunc f args) [] w K=(True/\K (.value (x w.heap.size)) { w with heap:=w.heap.push o })) :
  zb P S f args h (fun v h'=>∃b,h b=none/\v=x b/\h'=upd h b o):=
 .NW [] fun w hw=>by
  rw[E];have hn:h w.heap.size=none:=by
   cases e:h w.heap.size with
   | none=>rfl
   | some u=>exact absurd (hw.lt e) (Nat.lt_irrefl _)
  exact⟨trivial,_,upd h w.heap.size o,rfl,hi.upd,GH hw hi o (d:=w.drawn),w.heap.size,hn,rfl,rfl⟩
theorem MP{a:Addr}(hi:Inv S h)(hc:zj h a=some u)
  (E:∀(w:World) (K:Next->World->Prop),xn P S h w.heap.size (callFunc f args) [u] w K=(True/\Mode.plain=.plain/\(h a.block≠none\/w.heap.size<=a.block)/\w.cell? a=some u/\K (.value x) w)) :
  zb P S f args h (fun v h'=>v=x/\h'=h):=
 .NW [u] fun w hw=>by
  rw[E];exact⟨trivial,rfl,.inl (jc hc),jw hw hc,x,h,rfl,hi,.refl hw,rfl,rfl⟩
theorem VC{t b:Nat}{n:Int}{old:Value}(hi:Inv S h)(hb:zj h ⟨b,0,none⟩=some (.int k n))(ht:h t=some (.cells #[old] T))(hs:¬S t)
  (E:∀(w:World) (K:Next->World->Prop),xn P S h w.heap.size (callFunc f args) [.int k n] w K =
   (True/\Mode.plain=.plain/\(h b≠none\/w.heap.size<=b)/\w.cell? ⟨b,0,none⟩=some (.int k n) /\
    Mode.plain=.plain/\(h t≠none\/w.heap.size<=t)/\¬S t/\(∃u,w.cell? ⟨t,0,none⟩=some u)/\w.frozen? ⟨t,0,none⟩=false/\(Value.int k n).cells=#[.int k n]/\(∀x,Value.int k n ≠ .tuple x)/\(∀x,Value.int k n ≠ .agg x) /\
    K (.value x) (w.setCell ⟨t,0,none⟩ (.int k n)))) :
  zb P S f args h (fun v h'=>v=x/\h'=upd h t (.cells #[.int k n] T)):=
 .NW [.int k n] fun w hw=>by
  rw[E];have ct:zj h ⟨t,0,none⟩=some old:=by simp[zj,ht]
  have fz:w.frozen? ⟨t,0,none⟩=false:=by simp[World.frozen?,hw t _ ht]
  have e:zQ h ⟨t,0,none⟩ (.int k n)=upd h t (.cells #[.int k n] T):=by
   funext x;by_cases hx:x=t
   ·subst hx;simp[zQ,upd,ht]
   ·simp[zQ,upd,hx]
  refine⟨trivial,rfl,.inl (jc hb),jw hw hb,rfl,.inl (jc ct),hs,⟨_,jw hw ct⟩,fz,rfl,by simp,by simp,x,upd h t (.cells #[.int k n] T),rfl,hi.upd,?_,rfl,rfl⟩;rw[<-e];exact MF hw (by rw[ht];simp) hs
end
variable {b:Nat}
theorem sto1'{u v:Value}{K:Heap->Prop}(hb:h b=some (.cells #[u] T))(hS:¬S b)(k:K (upd h b (.cells #[v] T))):yk S ⟨b,0,none⟩ 0 [v] h K:=by
 have e:zQ h (Addr.add ⟨b,0,none⟩ 0) v=upd h b (.cells #[v] T):=by
  funext x;by_cases hx:x=b
  ·subst hx;simp[zQ,upd,Addr.add,hb]
  ·simp[zQ,upd,Addr.add,hx]
 refine⟨⟨⟨u,by simp[zj,Addr.add,hb]⟩,by simp[yN,Addr.add,hb],by simpa[Addr.add]using hS⟩,?_⟩;rw[e];exact k
variable {zs:List Int}{i:Nat}
theorem Sf{x:Int}(hi:i<zs.length):kM zs i [x]=zs.set i x:=by
 unfold kM;rw[List.set_eq_take_append_cons_drop,if_pos hi];simp
theorem OS{x:Int}{K:Heap->Prop}(hb:h b=some (.cells (ints k zs) T))(hs:¬S b)(hi:i<zs.length)(hK:K (upd h b (.cells (ints k (zs.set i x)) T))) :
  yk S (((some (⟨b,0,none⟩:Addr)).getD default).add (i*1)) 0 [.int k x] h K:=by
 rw[Option.getD_some,yR,Nat.mul_one];refine wW hs [x] 0 h zs hb (by simp;omega) ?_;rw[Nat.add_zero,Sf hi];exact hK
variable {n:Nat}
theorem Ka(hb:h b=some (.cells (ints k zs) T))(hn:zs.length=n):Part k h (.slice (some ⟨b,0,none⟩) n n) zs:=
 .inr ⟨b,[],[],[],T,by simp[hn],by simpa using hb⟩
theorem Kb(hb:h b=some (.cells (ints k zs) T)):zo h k (some ⟨b,0,none⟩) zs:=fun i x hx=>⟨_,rfl,by
 rw[yR];simp[zj,hb,ints,hx]⟩
variable {h0:Heap}{aa:Option Addr}{ca:Nat}{all:List Int}
theorem Part.FA(P:Part k h (.slice aa all.length ca) all)(N:New h0 (.slice aa all.length ca)){n m:Nat}(hn:n<=all.length)(hm:n<=m)(hc:m<=ca) :
  ∃a c,qa 1 aa 0 n m=.slice a (all.take n).length c/\Part k h (.slice a (all.take n).length c) (all.take n)/\New h0 (.slice a (all.take n).length c)/\(0<n->a.isNone=false):=by
 obtain⟨p,e⟩:=P.cut (lo:=0) (hi:=n) (m:=m) (by omega) hn hm hc;rw[List.drop_zero,Nat.sub_zero]at p;have hl:(all.take n).length=n:=by rw[List.length_take];omega
 obtain⟨a,c,e2,_,_⟩:=p.ints;refine⟨a,c,e2,e2▸p,fun b hb=>N b (by rw[<-e,e2];exact hb),fun h0=>?_⟩;rw[e2]at p;rcases p with⟨e3,e4⟩ | ⟨b,pr,sp,re,T,e3,_⟩
 ·rw[e4]at hl;simp at hl;omega
 ·simp only[Value.slice.injEq]at e3;rw[e3.1];rfl
theorem Part.from(P:Part k h (.slice aa all.length ca) all)(N:New h0 (.slice aa all.length ca))(hn:n<=all.length)(hc:all.length<=ca) :
  ∃a c,qa 1 aa n all.length ca=.slice a (all.drop n).length c/\Part k h (.slice a (all.drop n).length c) (all.drop n)/\New h0 (.slice a (all.drop n).length c):=by
 obtain⟨p,e⟩:=P.cut (lo:=n) (hi:=all.length) (m:=ca) hn (Nat.le_refl _) hc (Nat.le_refl _);rw[List.take_of_length_le (by rw[List.length_drop];omega)]at p;obtain⟨a,c,e2,_,_⟩:=p.ints;exact⟨a,c,e2,e2▸p,fun b hb=>N b (by rw[<-e,e2];exact hb)⟩
end Go.Eng
abbrev Go.Eng.qaA:=@Go.Eng.Heap
abbrev Go.Eng.qaB:=@Go.Eng.Sub
abbrev Go.Eng.qaC:=@Go.Eng.Inv
abbrev Go.Eng.qaD:=@Go.Eng.New
end
section
namespace Go.Proofs.YtopmdepgpabipaaGreatDoor
open Go Go.Eng Go.ChangeShapes Go.WideShapes Go.ChangeAt Go.RowKit
theorem Qw(W:World)(a:Addr):zj (kF W) a=W.cell? a:=rfl
variable {e t:TypeId}{k:IntKind}{v:Value}
section
variable {H:Type}{enc:TypeId × Value -> H}{W:World}
theorem VD{fuel:Nat}{y:DataW H×List MemPlace}(ht:Tryz.prog.underlying t=some (.slice e))(he:Tryz.prog.underlying e=some (.int k))(hc:Tryz.prog.cellsOf e=1)
  (h:DataW.trod enc Tryz.prog W 0 (fun _=>true) true fuel t [v]=some y):∃a c xs,v=.slice a xs.length c/\zo (kF W) k a xs/\xs.length<=maxLen/\(∀x∈xs,(Lit.int k x).wf=true):=by
 rcases open_ints ht he hc h with⟨hcs,_⟩ | ⟨a,len,cap,zs,hcs,_,hl,hm,hz,_,zj,hwz⟩
 ·simp only[List.cons.injEq,and_true]at hcs;subst hcs;exact⟨none,0,[],rfl,fun i x hx=>by simp at hx,Nat.zero_le _,fun x hx=>by simp at hx⟩
 ·simp only[List.cons.injEq,and_true]at hcs;simp only[if_true]at hz;subst hcs;have hlen:(zs.take len).length=len:=by rw[List.length_take];omega
  refine⟨some a,cap,zs.take len,by rw[hlen],fun i x hx=>⟨a,rfl,?_⟩,by rw[hlen];omega,fun x hx=>hwz x (List.mem_of_mem_take hx)⟩;have hi:i<len:=by
   have:=(List.getElem?_eq_some_iff.1 hx).1;omega
  rw[Qw,zj i (by omega)];rw[List.getElem?_take,if_pos hi]at hx;rw[List.getD_eq_getElem?_getD,hx];rfl
theorem IE{base:Nat}{d:DataW H}{p:List MemPlace}(ht:Tryz.prog.underlying t=some (.slice e))(he:Tryz.prog.underlying e=some (.int k))(hc:Tryz.prog.cellsOf e=1)
  (hv:Value.okWide Tryz.prog W .any base t v)(h:DataW.Trod enc Tryz.prog W 0 (fun _=>true) true t v d p):∃a c xs,v=.slice a xs.length c/\zo (kF W) k a xs/\xs.length<=maxLen/\(∀x∈xs,(Lit.int k x).wf=true):=by
 obtain⟨a,l,c,rfl⟩:=okWide_slice ht hv;obtain⟨fuel,hf⟩:=h;exact VD ht he hc (by simpa[Value.cells]using hf)
end
theorem XG:ownKnob Tryz.prog.godebug=none:=by kernel_rfl
theorem Ev:laidOutB Tryz.prog=true:=by kernel_rfl
end Go.Proofs.YtopmdepgpabipaaGreatDoor
end
section
namespace Go.Proofs.YtopmdepgpabipaaGreatDoor
abbrev Cz:Nat:=3
abbrev qV:Nat:=4
abbrev jJ:Nat:=5
abbrev wI:Nat:=6
abbrev BK:Nat:=7
abbrev kP:Nat:=8
abbrev qH:Nat:=9
abbrev AL:Nat:=10
abbrev BL:Nat:=11
abbrev BM:Nat:=12
abbrev AM:Nat:=13
abbrev qz:Nat:=14
abbrev yw:Nat:=15
abbrev zw:Nat:=16
abbrev qW:Nat:=17
abbrev Ci:Nat:=18
abbrev Ae:Nat:=19
abbrev jR:Nat:=20
abbrev yq:Nat:=21
abbrev wJ:Nat:=22
abbrev qI:Nat:=23
abbrev wK:Nat:=24
abbrev qX:Nat:=25
abbrev q9:Nat:=26
abbrev Cj:Nat:=27
abbrev By:Nat:=28
abbrev qY:Nat:=29
abbrev qA:Nat:=30
abbrev y6:Nat:=31
abbrev yD:Nat:=32
abbrev xG:Nat:=33
abbrev Ao:Nat:=34
abbrev Df:Nat:=35
abbrev jx:Nat:=36
abbrev jy:Nat:=37
abbrev wL:Nat:=38
abbrev jS:Nat:=39
abbrev jO:Nat:=40
abbrev yf:Nat:=41
abbrev jd:Nat:=42
abbrev ji:Nat:=43
abbrev xT:Nat:=44
abbrev Ew:Nat:=45
abbrev yo:Nat:=46
abbrev AN:Nat:=47
abbrev wM:Nat:=48
abbrev Ck:Nat:=49
abbrev Ap:Nat:=50
abbrev Cl:Nat:=51
abbrev kQ:Nat:=52
abbrev j1:Nat:=53
abbrev kg:Nat:=54
abbrev qe:Nat:=55
abbrev jj:Nat:=56
abbrev yi:Nat:=57
abbrev wS:Nat:=58
abbrev AO:Nat:=59
abbrev qf:Nat:=60
abbrev xV:Nat:=61
abbrev jB:Nat:=62
abbrev x8:Nat:=63
abbrev Aq:Nat:=64
abbrev xX:Nat:=65
abbrev yG:Nat:=66
abbrev qg:Nat:=67
abbrev xh:Nat:=68
abbrev jk:Nat:=69
abbrev jf:Nat:=70
abbrev Ey:Nat:=71
abbrev AP:Nat:=72
abbrev qB:Nat:=73
abbrev kR:Nat:=74
abbrev ki:Nat:=75
abbrev xo:Nat:=76
abbrev qZ:Nat:=77
abbrev AQ:Nat:=78
abbrev qJ:Nat:=79
abbrev Cm:Nat:=80
abbrev wc:Nat:=81
abbrev yX:Nat:=82
abbrev AR:Nat:=83
abbrev Ar:Nat:=84
abbrev Cn:Nat:=85
abbrev kj:Nat:=86
abbrev Co:Nat:=87
abbrev qK:Nat:=88
abbrev Af:Nat:=89
abbrev As:Nat:=90
abbrev yY:Nat:=91
abbrev AS:Nat:=92
abbrev Cp:Nat:=93
abbrev qE:Nat:=94
abbrev yx:Nat:=95
abbrev jm:Nat:=96
abbrev kD:Nat:=97
abbrev jo:Nat:=98
abbrev j3:Nat:=99
abbrev Cq:Nat:=100
abbrev Cr:Nat:=101
abbrev AT:Nat:=106
abbrev Cs:Nat:=107
abbrev kB:Nat:=108
abbrev wT:Nat:=109
abbrev jg:Nat:=147
abbrev xB:Nat:=155
abbrev jq:Nat:=157
abbrev xI:Nat:=158
end Go.Proofs.YtopmdepgpabipaaGreatDoor
end
