import Derived.Laws.Append
import Derived.IntWalk
import Derived.Laws.Bits64b
import Derived.Test.YtmnialmphlbmaaaGreatDoorChecked
import Derived.Test.YtmnialmphlbmaaaGreatDoorRows
import Derived.WalkKit
import Derived.ProofKit
import Derived.OpenShut
import Derived.ShutString
import Derived.ChangeOld
import Derived.Below
import Derived.Carry
import Derived.SizedLaws
import Derived.Lib.SmallJoins
import Derived.Test.YtmnialmphlbmaaaGreatDoorQb2
set_option maxRecDepth 100000
set_option maxHeartbeats 8000000
set_option linter.unusedVariables false
set_option linter.unusedSimpArgs false
set_option linter.unusedSectionVars false
section
namespace Go.Eng
open Go
def zp(h:Heap)(k:IntKind)(a:Option Addr)(xs:List Int):Prop:=∀(i:Nat) x,xs[i]? = some x->∃ad,a=some ad/\ze h (ad.add i)=some (.int k x)
def ints(k:IntKind)(xs:List Int):Array Value:=(xs.map (Value.int k)).toArray
theorem toInt_int{k:IntKind}{n:Int}:toInt (.int k n)=n:=rfl
theorem zc{b:Bool}:toBool (.bool b)=b:=rfl
theorem zg{a:Option Addr}{l c:Nat}:slL (.slice a l c)=l:=rfl
theorem zk{a:Option Addr}{l c:Nat}:slC (.slice a l c)=c:=rfl
theorem zh{a:Option Addr}{l c:Nat}:slA (.slice a l c)=a:=rfl
theorem zf{a:Addr}:xb (.pointer (some a))=a:=rfl
theorem zG{a:Option Addr}:kz (.pointer a)=a:=rfl
theorem zV{a:Option Addr}{l c:Nat}:xd (.slice a l c)=a.isNone:=by cases a <;> rfl
theorem yb{a:Option Addr}:xd (.pointer a)=a.isNone:=by cases a <;> rfl
theorem jO{d:Nat}{k:IntKind}{n:Int}:qg d (.int k n)=n.toNat:=rfl
theorem kW{d:Nat}:qg d (.tuple #[])=d:=rfl
theorem xq{p:Prop}[Decidable p]{c:Bool}:(if p then Value.bool c else Value.bool false)=.bool (decide p&&c):=by by_cases h:p <;> simp[h]
theorem AJ{p:Prop}[Decidable p]{c:Bool}:(if p then Value.bool true else Value.bool c)=.bool (decide p||c):=by by_cases h:p <;> simp[h]
section
variable {h : Heap} {k : IntKind} {b : Nat} {T : TypeId} {o : Obj}
theorem zp.cell{a:Option Addr}{xs:List Int}(H:zp h k a xs){i:Nat}{x:Int}(hx:xs[i]? = some x):ze h ((a.getD default).add i)=some (.int k x)/\a.isSome=true:=by
 obtain⟨ad,rfl,h2⟩:=H i x hx;exact⟨h2,rfl⟩
theorem K8{ad:Addr}{v:Value}(hc:ze h ad=some v)(hb:h b=none):ze (upd h b o) ad=some v:=by
 have:ad.block≠b:=fun e=>xM hc (e▸hb)
 unfold ze upd at *
 simpa[this]using hc
theorem zp.upd{a:Option Addr}{xs:List Int}(H:zp h k a xs)(hb:h b=none):zp (Eng.upd h b o) k a xs:=fun i x hx=>by
 obtain⟨ad,h1,h2⟩:=H i x hx;exact⟨ad,h1,K8 h2 hb⟩
theorem zS(n:Nat):(⟨b,0,none⟩:Addr).add n=⟨b,n,none⟩:=by
 unfold Addr.add;split
 ·rename_i h;subst h;rfl
 ·simp
theorem K9{c:Array Value}{n:Nat}:ze (upd h b (.cells c T)) ((⟨b,0,none⟩:Addr).add n)=c[n]? := by
 rw[zS];simp[ze,upd]
theorem Ma{c:Array Value}{n:Nat}{v:Value}:zw (upd h b (.cells c T)) ((⟨b,0,none⟩:Addr).add n) v=upd h b (.cells (c.setIfInBounds n v) T):=by
 rw[zS];funext x;unfold zw upd;by_cases hx:x=b <;> simp[hx]
theorem IE{S:Shared}{c:Array Value}{n:Nat}(hn:n<c.size)(hs:¬S b):yC S (upd h b (.cells c T)) ((⟨b,0,none⟩:Addr).add n):=by
 refine⟨⟨c[n],by rw[K9];simp[hn]⟩,?_,by rw[zS];exact hs⟩
 rw[zS];simp[yf,upd]
theorem BD{S:Shared}(hi:Inv S h)(hb:h b=none):¬S b:=fun hs=>hi b hs hb
theorem Inv.upd{S:Shared}(hi:Inv S h):Inv S (Eng.upd h b o):=fun x hx hn=>by
 unfold Eng.upd at hn
 split at hn
 ·cases hn
 ·exact hi x hx hn
theorem zp.new{xs:List Int}:zp (Eng.upd h b (.cells (ints k xs) T)) k (some ⟨b,0,none⟩) xs:=fun i x hx=>⟨_,rfl,by rw[K9];simp[ints,hx]⟩
theorem ql(n:Nat):yg n (([.int k 0]:List Value).toArray)=ints k (List.replicate n 0):=by
 apply Array.ext_getElem?
 intro i
 simp only[yg,ints,Array.getElem?_map,List.getElem?_toArray,List.getElem?_map,List.getElem?_replicate]
 by_cases hi:i<n
 ·simp[hi,Nat.mod_one]
 ·simp[hi]
theorem ints_set(xs:List Int)(n:Nat)(x:Int):(ints k xs).setIfInBounds n (.int k x)=ints k (xs.set n x):=by
 simp[ints,List.map_set]
theorem F9(xs:List Int):(ints k xs).size=xs.length:=by simp[ints]
theorem take_set(xs:List Int)(n:Nat)(hn:n<xs.length):((xs.take n)++List.replicate (xs.length-n) 0).set n xs[n]=xs.take (n+1)++List.replicate (xs.length-(n+1)) 0:=by
 apply List.ext_getElem?
 intro i
 rw[List.getElem?_set]
 by_cases h1:n=i
 ·subst h1
  have:n<(xs.take n++List.replicate (xs.length-n) 0).length:=by simp;omega
  rw[if_pos rfl,if_pos this,List.getElem?_append_left (by simp;omega)]
  simp[List.getElem?_take,hn]
 ·rw[if_neg h1]
  rcases Nat.lt_or_ge i n with h2 | h2
  ·rw[List.getElem?_append_left (by simp;omega),List.getElem?_append_left (by simp;omega)]
   simp[List.getElem?_take,h2,Nat.lt_succ_of_lt h2]
  ·rw[List.getElem?_append_right (by simp;omega),List.getElem?_append_right (by simp;omega)]
   simp only[List.length_take,List.getElem?_replicate]
   by_cases h3:i<xs.length
   ·rw[if_pos (by omega),if_pos (by omega)]
   ·rw[if_neg (by omega),if_neg (by omega)]
end
end Go.Eng
namespace Go.Eng
open Go
theorem Sub.zE{h:Heap}{b:Nat}{o:Obj}(hb:h b=none):Sub h (upd h b o):=fun x y hx=>by
 have:x≠b:=fun e=>by rw[e,hb]at hx;cases hx
 simp[upd,this,hx]
theorem Inv.sub{S:Shared}{h h':Heap}(hi:Inv S h)(hs:Sub h h'):Inv S h':=fun b hb hn=>by
 cases hh:h b with
 | none=>exact hi b hb hh
 | some o=>rw[hs b o hh]at hn;cases hn
theorem xO{h h':Heap}(hs:Sub h h'){ad:Addr}{v:Value}(hc:ze h ad=some v):ze h' ad=some v:=by
 unfold ze at *
 cases hh:h ad.block with
 | none=>rw[hh]at hc;cases hc
 | some o=>rw[hs _ o hh];rw[hh]at hc;exact hc
theorem zp.sub{h h':Heap}{k:IntKind}{a:Option Addr}{xs:List Int}(H:zp h k a xs)(hs:Sub h h'):zp h' k a xs:=fun i x hx=>by
 obtain⟨ad,h1,h2⟩:=H i x hx;exact⟨ad,h1,xO hs h2⟩
theorem xA{h:Heap}{b:Nat}{o o':Obj}:upd (upd h b o) b o'=upd h b o':=by
 funext x;unfold upd;by_cases hx:x=b <;> simp[hx]
theorem jP{h:Heap}{b:Nat}{o:Obj}(hb:h b=some o):upd h b o=h:=by
 funext x;unfold upd;by_cases hx:x=b
 ·subst hx;simp[hb]
 ·simp[hx]
theorem upd_same{h:Heap}{b:Nat}{o:Obj}:upd h b o b=some o:=by simp[upd]
theorem upd_ne{h:Heap}{b x:Nat}{o:Obj}(hx:x≠b):upd h b o x=h x:=by simp[upd,hx]
def zd:Value->Option Nat
 | .slice (some a) _ _=>some a.block
 | _=>none
def Own(k:IntKind)(h:Heap)(v:Value)(xs:List Int):Prop:=
 ∃b sp T,v=.slice (some ⟨b,0,none⟩) xs.length (xs.length+sp.length)/\h b=some (.cells (ints k (xs++sp)) T)
def New(h0:Heap)(v:Value):Prop:=∀b,zd v=some b->h0 b=none
section
variable {k : IntKind} {h h0 : Heap} {v : Value} {xs ys : List Int}
theorem Mb{sp:List Int}{i:Nat}{x:Int}(hx:xs[i]? = some x):(Eng.ints k (xs++sp))[i]? = some (.int k x):=by
 have:(xs++sp)[i]? = some x:=by rw[List.getElem?_append_left (List.getElem?_eq_some_iff.1 hx).1];exact hx
 simp only[Eng.ints,List.getElem?_toArray,List.getElem?_map,this];rfl
theorem Own.ints(H:Own k h v xs):∃a c,v=.slice a xs.length c/\zp h k a xs:=by
 obtain⟨b,sp,T,rfl,hb⟩:=H
 refine⟨_,_,rfl,fun i x hx=>⟨_,rfl,?_⟩⟩
 rw[zS]
 simp only[ze,hb]
 exact Mb hx
theorem Own.keep{h':Heap}(H:Own k h v xs)(hk:∀b,zd v=some b->h' b=h b):Own k h' v xs:=by
 obtain⟨b,sp,T,rfl,hb⟩:=H
 exact⟨b,sp,T,rfl,by rw[hk b rfl];exact hb⟩
theorem Own.made{b:Nat}{T:TypeId}(xs:List Int):Own k (upd h b (.cells (Eng.ints k xs) T)) (.slice (some ⟨b,0,none⟩) xs.length xs.length) xs:=
 ⟨b,[],T,by simp,by simp[upd]⟩
theorem New.of{b l c:Nat}(hb:h0 b=none):New h0 (.slice (some ⟨b,0,none⟩) l c):=fun x hx=>by
 cases hx;exact hb
def xP(zs:List Int)(n:Nat)(ys:List Int):List Int:=zs.take n++ys++zs.drop (n+ys.length)
theorem jQ{S:Shared}{b off:Nat}{T:TypeId}{K:Heap->Prop}(hs:¬S b):∀(ys:List Int) (i:Nat) (h:Heap) (zs:List Int),h b=some (.cells (Eng.ints k zs) T)->off+i+ys.length<=zs.length ->
  K (upd h b (.cells (Eng.ints k (xP zs (off+i) ys)) T))->zL S ⟨b,off,none⟩ i (ys.map (Value.int k)) h K:=by
 have ea:∀j,(⟨b,off,none⟩:Addr).add j=⟨b,off+j,none⟩:=fun j=>by
  unfold Addr.add;split
  ·rename_i h0;subst h0;rfl
  ·rfl
 intro ys
 induction ys with
 | nil=>
  intro i h zs hb _ hK
  have e:xP zs (off+i) []=zs:=by simp[xP]
  rw[e,jP hb]at hK
  exact hK
 | cons y r ih=>
  intro i h zs hb hl hK
  simp only[List.length_cons]at hl
  refine⟨⟨⟨.int k (zs[off+i]'(by omega)),?_⟩,?_,?_⟩,?_⟩
  ·rw[ea];simp[ze,hb,Eng.ints]
  ·rw[ea];simp[yf,hb]
  ·rw[ea];exact hs
  ·have e1:zw h ((⟨b,off,none⟩:Addr).add i) (.int k y)=upd h b (.cells (Eng.ints k (zs.set (off+i) y)) T):=by
    rw[ea];funext x;unfold zw upd
    by_cases hx:x=b
    ·subst hx;simp[hb,ints_set]
    ·simp[hx]
   rw[e1]
   refine ih (i+1) _ (zs.set (off+i) y) (by simp[upd]) (by simp;omega) ?_
   rw[xA]
   have e2:xP (zs.set (off+i) y) (off+(i+1)) r=xP zs (off+i) (y::r):=by
    unfold xP
    rw[show off+(i+1)=off+i+1 by omega,List.take_add_one,List.take_set_of_le (by omega),List.drop_set_of_lt (by omega)]
    simp only[List.length_cons]
    rw[List.getElem?_set_self (by omega)]
    simp[show off+i+1+r.length=off+i+(r.length+1) by omega]
   rw[e2];exact hK
theorem Hk{n:Int}:BI (.int k n):=⟨rfl,by simp,by simp⟩
theorem JG(n:Nat):Builtin.zeroCells ([.int k 0]:List Value).toArray n=Eng.ints k (List.replicate n 0):=by
 have:=ql (k:=k) n
 unfold yg at this
 unfold Builtin.zeroCells
 simpa using this
theorem zp.cells{a:Option Addr}{c:Nat}(H:zp h k a ys):k9 h a (ys.map (Value.int k)):=by
 unfold k9
 cases a with
 | none=>
  cases ys with
  | nil=>rfl
  | cons y r=>obtain⟨ad,h1,_⟩:=H 0 y rfl;cases h1
 | some ad=>
  have key:∀(zs:List Int) (i:Nat),(∀j x,zs[j]? = some x->ze h (ad.add (i+j))=some (.int k x))->zt h ad i (zs.map (Value.int k)):=by
   intro zs
   induction zs with
   | nil=>intros;trivial
   | cons z r ih=>
    intro i hz
    refine⟨by simpa using hz 0 z rfl,ih (i+1) fun j x hx=>?_⟩
    have:=hz (j+1) x (by simpa using hx)
    rwa[show i+(j+1)=i+1+j by omega]at this
  refine key ys 0 fun j x hx=>?_
  obtain⟨ad',h1,h2⟩:=H j x hx
  cases h1
  simpa using h2
end
end Go.Eng
namespace Go.Eng
open Go
theorem kT{p:Prop}[Decidable p]{k:IntKind}{a b:Int}:(if p then Value.int k a else Value.int k b)=.int k (if p then a else b):=by split <;> rfl
theorem kB{h:Heap}{k:IntKind}{a:Option Addr}{xs:List Int}(H:zp h k a xs){lo hi m:Nat}(h1:lo<=hi)(h2:hi<=xs.length)(h3:hi<=m) :
  ∃a',j8 1 a lo hi m=.slice a' ((xs.drop lo).take (hi-lo)).length (m-lo)/\zp h k a' ((xs.drop lo).take (hi-lo)):=by
 have hlen:((xs.drop lo).take (hi-lo)).length=hi-lo:=by rw[List.length_take,List.length_drop];omega
 refine⟨if m=lo then a else a.map (·.add (lo*1)),by rw[hlen];rfl,fun i x hx=>?_⟩
 have hi':i<hi-lo:=by rw[<-hlen];exact(List.getElem?_eq_some_iff.1 hx).1
 rw[List.getElem?_take,if_pos hi',List.getElem?_drop]at hx
 obtain⟨ad,rfl,hc⟩:=H _ x hx
 rw[if_neg (by omega)]
 exact⟨_,rfl,by rw[add_add,Nat.mul_one];exact hc⟩
end Go.Eng
namespace Go.Eng
open Go
def Part(k:IntKind)(h:Heap)(v:Value)(xs:List Int):Prop:=
 (v=.slice none 0 0/\xs=[]) \/
 ∃b pr sp re T,v=.slice (some ⟨b,pr.length,none⟩) xs.length (xs.length+sp.length)/\h b=some (.cells (ints k (pr++xs++sp++re)) T)
theorem zo(b off j:Nat):(⟨b,off,none⟩:Addr).add j=⟨b,off+j,none⟩:=by
 unfold Addr.add;split
 ·rename_i h0;subst h0;rfl
 ·rfl
section
variable {k : IntKind} {h h0 : Heap} {v : Value} {xs ys : List Int}
theorem QN{pr sp re:List Int}{i:Nat}{x:Int}(hx:xs[i]? = some x):(Eng.ints k (pr++xs++sp++re))[pr.length+i]? = some (.int k x):=by
 have hlt:=(List.getElem?_eq_some_iff.1 hx).1
 have:(pr++xs++sp++re)[pr.length+i]? = some x:=by
  rw[List.append_assoc,List.append_assoc,List.getElem?_append_right (by omega),Nat.add_sub_cancel_left,List.getElem?_append_left hlt];exact hx
 simp only[Eng.ints,List.getElem?_toArray,List.getElem?_map,this];rfl
theorem Own.part(H:Own k h v xs):Part k h v xs:=by
 obtain⟨b,sp,T,rfl,hb⟩:=H
 exact .inr ⟨b,[],sp,[],T,rfl,by simpa using hb⟩
theorem Part.nil:Part k h (.slice none 0 0) []:=.inl ⟨rfl,rfl⟩
theorem Part.ints(H:Part k h v xs):∃a c,v=.slice a xs.length c/\xs.length<=c/\zp h k a xs:=by
 rcases H with⟨rfl,rfl⟩ | ⟨b,pr,sp,re,T,rfl,hb⟩
 ·exact⟨none,0,rfl,Nat.le_refl _,fun i x hx=>by simp at hx⟩
 ·refine⟨_,_,rfl,by omega,fun i x hx=>⟨_,rfl,?_⟩⟩
  rw[zo]
  simp only[ze,hb]
  exact QN hx
theorem Part.keep{h':Heap}(H:Part k h v xs)(hk:∀b,zd v=some b->h' b=h b):Part k h' v xs:=by
 rcases H with H | ⟨b,pr,sp,re,T,rfl,hb⟩
 ·exact .inl H
 ·exact .inr ⟨b,pr,sp,re,T,rfl,by rw[hk b rfl];exact hb⟩
theorem Part.sub{h':Heap}(H:Part k h v xs)(hs:Sub h h'):Part k h' v xs:=by
 rcases H with H | ⟨b,pr,sp,re,T,rfl,hb⟩
 ·exact .inl H
 ·exact .inr ⟨b,pr,sp,re,T,rfl,hs b _ hb⟩
theorem Part.held(H:Part k h v xs):∀b,zd v=some b->h b≠none:=by
 rcases H with⟨rfl,rfl⟩ | ⟨b,pr,sp,re,T,rfl,hb⟩
 ·intro b hb;cases hb
 ·intro b' hb';cases hb';rw[hb];simp
theorem New.nil:New h0 (.slice none 0 0):=fun b hb=>by cases hb
theorem Part.cut{a:Option Addr}{l c:Nat}(H:Part k h (.slice a l c) xs){lo hi m:Nat}(h1:lo<=hi)(h2:hi<=xs.length)(h3:hi<=m)(h4:m<=c) :
  Part k h (j8 1 a lo hi m) ((xs.drop lo).take (hi-lo))/\(zd (j8 1 a lo hi m)=zd (.slice a l c)):=by
 rcases H with⟨hv,rfl⟩ | ⟨b,pr,sp,re,T,hv,hb⟩
 ·cases hv
  have:lo=0/\hi=0/\m=0:=by simp at h2;omega
  obtain⟨rfl,rfl,rfl⟩:=this
  exact⟨.inl ⟨rfl,by simp⟩,rfl⟩
 ·cases hv
  have hlen:((xs.drop lo).take (hi-lo)).length=hi-lo:=by rw[List.length_take,List.length_drop];omega
  unfold j8
  by_cases hm:m=lo
  ·have hh:hi=lo:=by omega
   subst hm
   subst hh
   rw[if_pos rfl]
   refine⟨.inr ⟨b,pr,[],xs++sp++re,T,by simp,?_⟩,rfl⟩
   rw[hb];simp[List.append_assoc]
  ·rw[if_neg hm]
   refine⟨.inr ⟨b,pr++xs.take lo,((xs.drop lo).drop (hi-lo)++sp).take (m-hi),((xs.drop lo).drop (hi-lo)++sp).drop (m-hi)++re,T,?_,?_⟩,?_⟩
   ·simp only[Option.map_some,zo,Nat.mul_one,List.length_append,List.length_take,hlen,List.length_drop]
    have e1:min lo xs.length=lo:=by omega
    have e2:min (m-hi) (xs.length-lo-(hi-lo)+sp.length)=m-hi:=by omega
    rw[e1,e2]
    simp;omega
   ·rw[hb]
    have e3:xs=xs.take lo++((xs.drop lo).take (hi-lo)++(xs.drop lo).drop (hi-lo)):=by rw[List.take_append_drop,List.take_append_drop]
    have e4:∀(zs:List Int),zs.take (m-hi)++(zs.drop (m-hi)++re)=zs++re:=fun zs=>by rw[<-List.append_assoc,List.take_append_drop]
    congr 3
    conv=>lhs;rw[e3]
    simp only[List.append_assoc]
    rw[<-List.append_assoc ((xs.drop lo).drop (hi-lo)) sp re,<-e4]
   ·simp[zd,zo]
theorem yM{S:Shared}{ty:TypeId}{byt:Nat}{a:Option Addr}{c:Nat}{K:Value->Heap->Prop}(hi:Inv S h0)(hsub:Sub h0 h)(hs:Part k h v xs)(hn:New h0 v)(hx:zp h k a ys)
  (hl:(xs.length+ys.length)*byt<=140737488355328)
  (hK:∀v' h',Part k h' v' (xs++ys)->New h0 v'->Sub h0 h'->(∀b,h b≠none->zd v≠some b->h' b=h b)->(zd v'=zd v\/New h v')->K v' h') :
  appW S ty 1 byt [.int k 0] v (.slice a ys.length c) h K:=by
 have grown:∀(nc d:Nat),xs.length+ys.length<=nc->h d=none ->
   K (.slice (some ⟨d,0,none⟩) (xs.length+ys.length) nc) (upd h d (.cells ((xs.map (Value.int k)).toArray++(ys.map (Value.int k)).toArray++Builtin.zeroCells ([.int k 0]:List Value).toArray (nc-(xs.length+ys.length))) ty)):=by
  intro nc d hnc hd
  have hd0:h0 d=none:=by
   cases hh:h0 d with
   | none=>rfl
   | some o=>rw[hsub d o hh]at hd;cases hd
  have e1:((xs.map (Value.int k)).toArray++(ys.map (Value.int k)).toArray++Builtin.zeroCells ([.int k 0]:List Value).toArray (nc-(xs.length+ys.length)))=Eng.ints k ((xs++ys)++List.replicate (nc-(xs.length+ys.length)) 0):=by
   rw[JG];simp[Eng.ints]
  rw[e1]
  refine hK _ _ (Own.part ⟨d,List.replicate (nc-(xs.length+ys.length)) 0,ty,?_,by simp[upd]⟩) (New.of hd0) ?_ (fun x hx hne=>?_) (.inr (New.of hd))
  ·simp;omega
  ·intro x o hx
   have:x≠d:=fun e=>by rw[e,hd0]at hx;cases hx
   rw[upd_ne this];exact hsub x o hx
  ·have:x≠d:=fun e=>hx (e▸hd)
   exact upd_ne this
 have hs':=hs
 obtain⟨a0,c0,hv0,_,hi0⟩:=hs'.ints
 rcases hs with⟨rfl,rfl⟩ | ⟨b,pr,sp,re,T,rfl,hb⟩
 ·refine⟨ys.map (Value.int k),by simp[slL],hx.cells (c:=c),fun v hv=>?_,fun hroom=>?_,fun hgrow=>?_⟩
  ·obtain⟨y,_,rfl⟩:=List.mem_map.1 hv
   exact Hk
  ·simp only[slL,slC]at hroom
   have hy:ys=[]:=List.length_eq_zero_iff.1 (by omega)
   subst hy
   exact hK _ _ Part.nil New.nil hsub (fun _ _ _=>rfl) (.inl rfl)
  ·simp only[slA,slL,slC]at hgrow ⊢
   refine⟨growslice_fits (by omega) (by simpa using hl),[],by simp,rfl,fun nc d hnc hd=>?_⟩
   simpa using grown nc d (by simpa using hnc) hd
 ·have hb0:h0 b=none:=hn b rfl
  have hsb:¬S b:=fun hs=>hi b hs hb0
  refine⟨ys.map (Value.int k),by simp[slL],hx.cells (c:=c),fun v hv=>?_,fun hroom=>?_,fun hgrow=>?_⟩
  ·obtain⟨y,_,rfl⟩:=List.mem_map.1 hv
   exact Hk
  ·simp only[slA,slL,slC]at hroom ⊢
   have e0:(⟨b,pr.length,none⟩:Addr).add (xs.length*1)=⟨b,pr.length+xs.length,none⟩:=by rw[Nat.mul_one,zo]
   rw[e0]
   refine jQ hsb ys 0 h (pr++xs++sp++re) hb (by simp;omega) ?_
   have e1:xP (pr++xs++sp++re) (pr.length+xs.length+0) ys=pr++(xs++ys)++sp.drop ys.length++re:=by
    have e2:pr.length+xs.length=(pr++xs).length:=by simp
    have e3:(pr++xs++sp++re).take (pr++xs).length=pr++xs:=by rw[List.append_assoc (pr++xs),List.take_left'];rfl
    have e4:(pr++xs++sp++re).drop ((pr++xs).length+ys.length)=sp.drop ys.length++re:=by
     rw[List.append_assoc (pr++xs),<-List.drop_drop,List.drop_left',List.drop_append_of_le_length (by omega)]
     rfl
    unfold xP
    rw[Nat.add_zero,e2,e3,e4]
    simp[List.append_assoc]
   rw[e1]
   refine hK _ _ (.inr ⟨b,pr,sp.drop ys.length,re,T,?_,by simp[upd]⟩) (fun x hx=>by cases hx;exact hb0) ?_ (fun x hx hne=>?_) (.inl rfl)
   ·simp;omega
   ·intro x o hx
    have:x≠b:=fun e=>by rw[e,hb0]at hx;cases hx
    rw[upd_ne this];exact hsub x o hx
   ·have:x≠b:=fun e=>hne (by rw[e];rfl)
    exact upd_ne this
  ·simp only[slA,slL,slC]at hgrow ⊢
   simp only[Value.slice.injEq]at hv0
   obtain⟨rfl,_,_⟩:=hv0
   exact⟨growslice_fits (by omega) hl,xs.map (Value.int k),by simp,zp.cells (c:=0) (ys:=xs) hi0,fun nc d hnc hd=>grown nc d hnc hd⟩
end
end Go.Eng
namespace Go.Eng
open Go
structure Ty(V X:Type) where
 R:Heap->V->X->Prop
 B:V->Nat->Prop
 O:Heap->V->X->Prop
 Rsub:∀ {h h' v x},R h v x->Sub h h'->R h' v x
 OR:∀ {h v x},O h v x->R h v x
 Okeep:∀ {h h' v x},O h v x->(∀b,B v b->h' b=h b)->O h' v x
 Oheld:∀ {h v x b},O h v x->B v b->h b≠none
def Ty.New{V X:Type}(A:Ty V X)(h:Heap)(v:V):Prop:=∀b,A.B v b->h b=none
theorem zK{h1 h2:Heap}(hs:Sub h1 h2){b:Nat}(hb:h2 b=none):h1 b=none:=by
 cases hh:h1 b with
 | none=>rfl
 | some o=>rw[hs _ _ hh]at hb;cases hb
section
variable {V X : Type} {A : Ty V X} {h h' h0 : Heap} {v : V} {x : X}
theorem Ty.SO(H:A.O h v x)(hs:Sub h h'):A.O h' v x:=A.Okeep H fun b hb=>by
 cases hh:h b with
 | none=>exact absurd hh (A.Oheld H hb)
 | some o=>exact hs b o hh
end
def VV(k:IntKind):Ty Value (List Int) where
 R h v xs:=∃a c,v=.slice a xs.length c/\zp h k a xs
 B v b:=zd v=some b
 O h v xs:=Part k h v xs
 Rsub:=fun⟨a,c,e,H⟩ hs=>⟨a,c,e,H.sub hs⟩
 OR H:=by obtain⟨a,c,e,_,hx⟩:=H.ints;exact⟨a,c,e,hx⟩
 Okeep H hk:=H.keep hk
 Oheld H hb:=H.held _ hb
section
variable {V W X Y : Type} {A : Ty V X} {L : Ty W Y} {h h' : Heap} {v : V} {w : W} {x : X}
theorem Ty.off{S:Shared}(hi:Inv S h)(hn:A.New h v):∀b,A.B v b->¬S b:=fun b hb hs=>hi b hs (hn b hb)
theorem Sub.other{h1 h2:Heap}(hs:Sub h h1)(hn:A.New h v)(hk:∀b,¬A.B v b->h2 b=h1 b):Sub h h2:=fun b o hb=>by
 rw[hk b fun hB=>by rw[hn b hB]at hb;cases hb];exact hs b o hb
end
end Go.Eng
namespace Go.Eng
open Go
theorem IF(w:Nat)(hw:0<w)(y:Int):(BitVec.ofInt w y &&& BitVec.ofInt w 1).toNat=(y%2).toNat:=by
 have e1:BitVec.ofInt w (1:Int)=1#w:=by rw[show(1:Int)=((1:Nat):Int) by rfl,BitVec.ofInt_natCast]
 rw[e1,BitVec.toNat_and,BitVec.toNat_ofInt]
 have e2:(1#w).toNat=1:=by
  rw[BitVec.toNat_ofNat];exact Nat.mod_eq_of_lt (Nat.one_lt_two_pow (by omega))
 rw[e2,Nat.and_one_is_mod]
 have h2:((2^w:Nat):Int)=2*((2^(w-1):Nat):Int):=by
  have:2^w=2*2^(w-1):=by rw[<-Nat.pow_succ',Nat.succ_eq_add_one,Nat.sub_add_cancel hw]
  rw[this];push_cast;rfl
 rw[h2]
 have h3:y%(2*((2^(w-1):Nat):Int))%2=y%2:=Int.emod_emod_of_dvd _ ⟨_,rfl⟩
 have h4:0<=y%(2*((2^(w-1):Nat):Int)):=Int.emod_nonneg _ (by have:0<2^(w-1):=Nat.two_pow_pos _;omega)
 omega
theorem UT(y:Int):Go.bits .and .u8 y 1=y%2:=by
 show IntKind.u8.wrap ((BitVec.ofInt 8 y &&& BitVec.ofInt 8 1).toNat:Int)=_
 rw[IF 8 (by decide),IntKind.wrap_u8];omega
theorem Mc(y:Int):Go.bits .and .u64 y 1=y%2:=by
 show IntKind.u64.wrap ((BitVec.ofInt 64 y &&& BitVec.ofInt 64 1).toNat:Int)=_
 rw[IF 64 (by decide),IntKind.wrap_u64];omega
theorem yw(n:Nat):(2:Int)^n=((2^n:Nat):Int):=by push_cast;rfl
theorem VW{v:Int}{i:Nat}(b:Int)(h0:0<=v)(h1:v<2^i)(hb:0<=b/\b<=1)(hi:i<64):Go.bits .or .u64 v (b*2^i)=v+b*2^i:=by
 obtain⟨n,rfl⟩:=Int.eq_ofNat_of_zero_le h0
 obtain⟨m,rfl⟩:=Int.eq_ofNat_of_zero_le hb.1
 rw[yw]at h1 ⊢
 have hn:n<2^i:=by exact_mod_cast h1
 have hm:m<=1:=by omega
 have hp:2^i<=2^63:=Nat.pow_le_pow_right (by decide) (by omega)
 have hle:m*2^i<=2^i:=by have:=Nat.mul_le_mul_right (2^i) hm;omega
 have e:((m:Int)*((2^i:Nat):Int))=((m*2^i:Nat):Int):=by push_cast;rfl
 rw[e,Go.bits_or_u64_nat n (m*2^i) (by omega) (by omega)]
 have e2:=Nat.two_pow_add_eq_or_of_lt hn m
 rw[Nat.or_comm,Nat.mul_comm m,<-e2]
 push_cast
 omega
def xy(xs:List Int)(i:Nat):Int:=(xs.getD (i/8) 0).fdiv (2^(i%8))%2
def yA(xs:List Int)(at_:Nat):Nat->Int
 | 0=>0
 | n+1=>yA xs at_ n+xy xs (at_+n)*2^n
theorem A0{xs:List Int}{i:Nat}:0<=xy xs i/\xy xs i<=1:=by unfold xy;omega
theorem QO{xs:List Int}{n:Nat}:∀ {a:Nat},yA xs a (n+1)=2*yA xs (a+1) n+xy xs a:=by
 induction n with
 | zero=>intro a;simp[yA]
 | succ n ih=>
  intro a
  rw[yA,ih,yA,show a+(n+1)=a+1+n by omega,show(2:Int)^(n+1)=2*2^n by rw[Int.pow_succ];omega]
  generalize xy xs (a+1+n)=b
  generalize (2:Int)^n=p
  have:b*(2*p)=2*(b*p):=by rw[Int.mul_left_comm]
  omega
theorem A6{xs:List Int}{a n:Nat}:0<=yA xs a n/\yA xs a n<2^n:=by
 induction n with
 | zero=>simp[yA]
 | succ n ih=>
  rw[yA,show(2:Int)^(n+1)=2*2^n by rw[Int.pow_succ];omega]
  have hb:=A0 (xs:=xs) (i:=a+n)
  have hp:(0:Int)<2^n:=Int.pow_pos (by decide)
  have:xy xs (a+n)=0\/xy xs (a+n)=1:=by omega
  rcases this with h | h <;> rw[h] <;> omega
end Go.Eng
namespace Go.Eng
open Go
def ya(n:Nat)(L:List Int):List Int:=L.drop (L.length-n)
theorem jA{n:Nat}{L:List Int}:(ya n L).length=min L.length n:=by unfold ya;rw[List.length_drop];omega
theorem Md{n:Nat}{L:List Int}(h:L.length<=n):ya n L=L:=by unfold ya;rw[show L.length-n=0 by omega,List.drop_zero]
theorem AX{n:Nat}{K L:List Int}:ya n (ya n K++L)=ya n (K++L):=by
 unfold ya
 rw[List.length_append,List.length_append,List.length_drop]
 by_cases h:K.length<=n
 ·rw[show K.length-n=0 by omega,List.drop_zero,Nat.sub_zero]
 ·have e:(K.drop (K.length-n)++L)=(K++L).drop (K.length-n):=by rw[List.drop_append_of_le_length (by omega)]
  rw[e,List.drop_drop]
  congr 1
  omega
theorem Po{n:Nat}{K:List Int}:ya n (ya n K)=ya n K:=by
 have:=AX (n:=n) (K:=K) (L:=[]);simpa using this
theorem Pp{n m:Nat}{K L:List Int}(hm:m<=L.length-n):ya n (K++L.drop m)=ya n (K++L):=by
 unfold ya
 rw[List.length_append,List.length_append,List.length_drop]
 by_cases h:m=0
 ·subst h;simp
 ·have hmn:m+n<=L.length:=by omega
  have e1:K.length+(L.length-m)-n=K.length+(L.length-m-n):=by omega
  have e2:K.length+L.length-n=K.length+(L.length-n):=by omega
  rw[e1,e2,List.drop_length_add_append,List.drop_length_add_append,List.drop_drop]
  congr 1
  omega
def zU(sz:Int)(d:List Int)(at_ n:Int)(T:TypeId):Obj:=.cells (Value.int .i64 sz::(d.map (Value.int .u8)++[.int .i64 at_,.int .i64 n])).toArray T
theorem SP{x s:Nat}(h:x<2*s):x%s=if x<s then x else x-s:=by
 split
 ·exact Nat.mod_eq_of_lt ‹_›
 ·rw[Nat.mod_eq_sub_mod (by omega)];exact Nat.mod_eq_of_lt (by omega)
structure RingS(sz:Nat)(d:List Int)(at_ n:Nat)(K:List Int):Prop where
 dl:d.length=32768
 s1:1<=sz
 s2:sz<=32768
 a1:at_<sz
 kn:K.length=n
 n1:n<=sz
 rd:∀j,j<n->d[(at_+sz-n+j)%sz]? = K[j]?
theorem RingS.new{sz:Nat}(h1:1<=sz)(h2:sz<=32768):RingS sz (List.replicate 32768 0) 0 0 []:=
 ⟨by rw[List.length_replicate],h1,h2,by omega,rfl,by omega,fun j hj=>by omega⟩
theorem RingS.push{sz:Nat}{d:List Int}{at_ n:Nat}{K:List Int}(R:RingS sz d at_ n K)(c:Int) :
  RingS sz (d.set at_ c) ((at_+1)%sz) (min (n+1) sz) (ya sz (K++[c])):=by
 obtain⟨dl,s1,s2,a1,kn,n1,rd⟩:=R
 refine⟨by rw[List.length_set];exact dl,s1,s2,Nat.mod_lt _ (by omega),by rw[jA];simp[kn],by omega,fun j hj=>?_⟩
 have e0:(at_+1)%sz=if at_+1<sz then at_+1 else 0:=by
  rw[SP (by omega)];split <;> omega
 rw[e0]
 have pos:∀y,(if at_+1<sz then at_+1 else 0)+sz-min (n+1) sz+j=y->y<2*sz:=by intro y hy;split at hy <;> omega
 rw[SP (pos _ rfl)]
 unfold ya
 rw[List.getElem?_drop,List.length_append,kn,List.length_singleton]
 by_cases hl:j+1=min (n+1) sz
 ·
  have e1:(if(if at_+1<sz then at_+1 else 0)+sz-min (n+1) sz+j<sz then(if at_+1<sz then at_+1 else 0)+sz-min (n+1) sz+j else(if at_+1<sz then at_+1 else 0)+sz-min (n+1) sz+j-sz)=at_:=by
   split <;> split <;> omega
  rw[e1,List.getElem?_set_self (by omega)]
  rw[List.getElem?_append_right (by omega)]
  have e2:n+1-sz+j-K.length=0:=by omega
  rw[e2];rfl
 ·have hj2:n+1-sz+j<n:=by omega
  have h:=rd (n+1-sz+j) hj2
  rw[SP (by omega)]at h
  rw[List.getElem?_append_left (by omega),<-h]
  have e1:(if(if at_+1<sz then at_+1 else 0)+sz-min (n+1) sz+j<sz then(if at_+1<sz then at_+1 else 0)+sz-min (n+1) sz+j else(if at_+1<sz then at_+1 else 0)+sz-min (n+1) sz+j-sz)=(if at_+sz-n+(n+1-sz+j)<sz then at_+sz-n+(n+1-sz+j)else at_+sz-n+(n+1-sz+j)-sz):=by
   split <;> split <;> split <;> omega
  rw[e1,List.getElem?_set_ne]
  split <;> omega
section
variable {h : Heap} {S : Shared} {b : Nat} {sz at_ n : Int} {d : List Int} {T : TypeId}
theorem DC(hb:h b=some (zU sz d at_ n T)):ze h ⟨b,0,none⟩=some (.int .i64 sz):=by simp[ze,hb,zU]
theorem QP(hb:h b=some (zU sz d at_ n T)){i:Nat}{x:Int}(hx:d[i]? = some x):ze h ⟨b,1+i,none⟩=some (.int .u8 x):=by
 have hi:=(List.getElem?_eq_some_iff.1 hx).1
 simp only[ze,hb,zU,List.getElem?_toArray]
 rw[Nat.add_comm,List.getElem?_cons_succ,List.getElem?_append_left (by simpa using hi),List.getElem?_map,hx]
 rfl
theorem G6(hb:h b=some (zU sz d at_ n T))(hd:d.length=32768):ze h ⟨b,32769,none⟩=some (.int .i64 at_):=by
 simp only[ze,hb,zU,List.getElem?_toArray]
 rw[show(32769:Nat)=32768+1 by rfl,List.getElem?_cons_succ,List.getElem?_append_right (by simp[hd])]
 simp[hd]
theorem Me(hb:h b=some (zU sz d at_ n T))(hd:d.length=32768):ze h ⟨b,32770,none⟩=some (.int .i64 n):=by
 simp only[ze,hb,zU,List.getElem?_toArray]
 rw[show(32770:Nat)=32769+1 by rfl,List.getElem?_cons_succ,List.getElem?_append_right (by simp[hd])]
 simp[hd]
theorem JH(hb:h b=some (zU sz d at_ n T))(hs:¬S b){i:Nat}{v:Value}(hc:ze h ⟨b,i,none⟩=some v):yC S h ⟨b,i,none⟩:=
 ⟨⟨v,hc⟩,by simp[yf,hb,zU],hs⟩
theorem qH{c:Array Value}(hb:h b=some (.cells c T))(i:Nat)(v:Value):zw h ⟨b,i,none⟩ v=upd h b (.cells (c.setIfInBounds i v) T):=by
 funext x;unfold zw upd;by_cases hx:x=b <;> simp[hx,hb]
theorem QQ(hb:h b=some (zU sz d at_ n T)){i:Nat}(hi:i<d.length)(x:Int):zw h ⟨b,1+i,none⟩ (.int .u8 x)=upd h b (zU sz (d.set i x) at_ n T):=by
 rw[qH hb]
 unfold zU
 rw[List.setIfInBounds_toArray,Nat.add_comm,List.set_cons_succ,List.set_append_left _ _ (by simpa using hi),List.map_set]
theorem Pq(hb:h b=some (zU sz d at_ n T))(hd:d.length=32768)(x:Int):zw h ⟨b,32769,none⟩ (.int .i64 x)=upd h b (zU sz d x n T):=by
 rw[qH hb]
 unfold zU
 rw[List.setIfInBounds_toArray,show(32769:Nat)=32768+1 by rfl,List.set_cons_succ,List.set_append_right _ _ (by simp[hd])]
 simp[hd]
theorem QR(hb:h b=some (zU sz d at_ n T))(hd:d.length=32768)(x:Int):zw h ⟨b,32770,none⟩ (.int .i64 x)=upd h b (zU sz d at_ x T):=by
 rw[qH hb]
 unfold zU
 rw[List.setIfInBounds_toArray,show(32770:Nat)=32769+1 by rfl,List.set_cons_succ,List.set_append_right _ _ (by simp[hd])]
 simp[hd]
theorem QS(sz:Int)(T:TypeId):Obj.cells (Value.int .i64 sz::(List.replicate 32768 (Value.int .u8 0)++List.replicate 2 (Value.int .i64 0))).toArray T=zU sz (List.replicate 32768 0) 0 0 T:=by
 unfold zU;rw[List.map_replicate];rfl
end
end Go.Eng
namespace Go.Eng
open Go
def pv(p:Int×Int):List Value:=[.int .i64 p.1,.int .u64 p.2]
def yF(ps:List (Int×Int)):Array Value:=(ps.flatMap pv).toArray
theorem Mf(ps:List (Int×Int)):(ps.flatMap pv).length=ps.length*2:=by
 induction ps with
 | nil=>rfl
 | cons p r ih=>simp only[vF,List.length_append,ih,pv,List.length_cons,List.length_nil];omega
theorem IG(ps:List (Int×Int)):(yF ps).size=ps.length*2:=by simp only[yF,List.size_toArray];exact Mf ps
theorem Mh:∀ {ps:List (Int×Int)} {i:Nat} {p:Int×Int},ps[i]? = some p->(ps.flatMap pv)[i*2]? = some (.int .i64 p.1)/\(ps.flatMap pv)[i*2+1]? = some (.int .u64 p.2)
 | [],i,p,h=>by simp at h
 | q::r,0,p,h=>by
  simp only[vC,Option.some.injEq]at h
  subst h
  exact⟨rfl,rfl⟩
 | q::r,i+1,p,h=>by
  rw[List.getElem?_cons_succ]at h
  have:=Mh h
  rw[vF]
  have e:pv q=[.int .i64 q.1,.int .u64 q.2]:=rfl
  rw[e,show(i+1)*2=i*2+2 by omega]
  exact this
theorem QT:∀ {ps:List (Int×Int)} {i:Nat} (x y:Int),i<ps.length->((ps.flatMap pv).set (i*2) (.int .i64 x)).set (i*2+1) (.int .u64 y)=(ps.set i (x,y)).flatMap pv
 | [],i,x,y,h=>by simp at h
 | q::r,0,x,y,h=>rfl
 | q::r,i+1,x,y,h=>by
  have:=QT (ps:=r) (i:=i) x y (by simpa using h)
  rw[List.set_cons_succ,vF,vF,<-this]
  have e:pv q=[.int .i64 q.1,.int .u64 q.2]:=rfl
  rw[e,show(i+1)*2=i*2+2 by omega]
  rfl
theorem KA{ps:List (Int×Int)}{i:Nat}(x y:Int)(h:i<ps.length):((yF ps).setIfInBounds (i*2) (.int .i64 x)).setIfInBounds (i*2+1) (.int .u64 y)=yF (ps.set i (x,y)):=by
 simp only[yF,List.setIfInBounds_toArray]
 rw[QT x y h]
theorem EO(n:Nat):yg (n*2) (([.int .i64 0,.int .u64 0]:List Value).toArray)=yF (List.replicate n (0,0)):=by
 apply Array.ext_getElem?
 intro i
 simp only[yg,yF,Array.getElem?_map,List.getElem?_toArray]
 by_cases hi:i<n*2
 ·have e1:(Array.range (n*2))[i]? = some i:=by simp[hi]
  rw[e1]
  have hr:(List.replicate n ((0:Int),(0:Int)))[i/2]? = some (0,0):=by rw[List.getElem?_replicate,if_pos (by omega)]
  have:=Mh hr
  rcases Nat.mod_two_eq_zero_or_one i with h2 | h2
  ·have e2:i=i/2*2:=by omega
   rw[e2,this.1]
   simp[show i/2*2%2=0 by omega]
  ·have e2:i=i/2*2+1:=by omega
   rw[e2,this.2]
   simp[show(i/2*2+1)%2=1 by omega]
 ·have e1:(Array.range (n*2))[i]? = none:=by simp;omega
  rw[e1]
  symm
  rw[Option.map_none,List.getElem?_eq_none]
  rw[Mf,List.length_replicate];omega
theorem IH(n:Nat):Builtin.zeroCells ([.int .i64 0,.int .u64 0]:List Value).toArray n=yF (List.replicate n (0,0)):=by
 have:=EO n
 unfold yg at this
 unfold Builtin.zeroCells
 simpa using this
def jB(h:Heap)(a:Option Addr)(ps:List (Int×Int)):Prop:=∀(i:Nat) p,ps[i]? = some p->∃ad,a=some ad/\ze h (ad.add (i*2))=some (.int .i64 p.1)/\ze h (ad.add (i*2+1))=some (.int .u64 p.2)
def xn(h:Heap)(v:Value)(ps:List (Int×Int)):Prop:=
 ∃b sp T,v=.slice (some ⟨b,0,none⟩) ps.length (ps.length+sp.length)/\h b=some (.cells (yF (ps++sp)) T)
section
variable {h h0 h' : Heap} {v : Value} {ps qs : List (Int × Int)} {a : Option Addr}
theorem jB.sub(H:jB h a ps)(hs:Sub h h'):jB h' a ps:=fun i p hp=>by
 obtain⟨ad,e,h1,h2⟩:=H i p hp
 exact⟨ad,e,xO hs h1,xO hs h2⟩
theorem jB.cell(H:jB h a ps){i:Nat}{p:Int×Int}(hp:ps[i]? = some p):ze h ((a.getD default).add (i*2))=some (.int .i64 p.1)/\ze h ((a.getD default).add (i*2+1))=some (.int .u64 p.2)/\a.isSome=true:=by
 obtain⟨ad,rfl,h1,h2⟩:=H i p hp;exact⟨h1,h2,rfl⟩
theorem jB.of{b:Nat}{T:TypeId}{sp:List (Int×Int)}(hb:h b=some (.cells (yF (ps++sp)) T)):jB h (some ⟨b,0,none⟩) ps:=fun i p hp=>by
 have hp2:(ps++sp)[i]? = some p:=by rw[List.getElem?_append_left (List.getElem?_eq_some_iff.1 hp).1];exact hp
 have:=Mh hp2
 refine⟨_,rfl,?_,?_⟩ <;> rw[zS] <;> simp only[ze,hb,yF,List.getElem?_toArray]
 ·exact this.1
 ·exact this.2
theorem xn.yF(H:xn h v ps):∃a c,v=.slice a ps.length c/\ps.length<=c/\jB h a ps:=by
 obtain⟨b,sp,T,rfl,hb⟩:=H
 exact⟨_,_,rfl,by omega,jB.of hb⟩
theorem xn.keep(H:xn h v ps)(hk:∀b,zd v=some b->h' b=h b):xn h' v ps:=by
 obtain⟨b,sp,T,rfl,hb⟩:=H
 exact⟨b,sp,T,rfl,by rw[hk b rfl];exact hb⟩
theorem xn.held(H:xn h v ps):∀b,zd v=some b->h b≠none:=by
 obtain⟨b,sp,T,rfl,hb⟩:=H
 intro b' hb';cases hb';rw[hb];simp
theorem xn.made{b:Nat}{T:TypeId}(ps:List (Int×Int)):xn (upd h b (.cells (Eng.yF ps) T)) (.slice (some ⟨b,0,none⟩) ps.length ps.length) ps:=
 ⟨b,[],T,by simp,by simp[upd]⟩
theorem hset_cells'{b:Nat}{c:Array Value}{T:TypeId}(hb:h b=some (.cells c T))(i:Nat)(v:Value):zw h ⟨b,i,none⟩ v=upd h b (.cells (c.setIfInBounds i v) T):=by
 funext x;unfold zw upd;by_cases hx:x=b <;> simp[hx,hb]
theorem KB{k:IntKind}{n:Int}:BI (.int k n):=⟨rfl,by simp,by simp⟩
theorem QU{S:Shared}{ty:TypeId}{byt:Nat}{a:Option Addr}{c:Nat}{p:Int×Int}{K:Value->Heap->Prop}(hi:Inv S h0)(hsub:Sub h0 h)(hs:xn h v ps)(hn:New h0 v)(hx:jB h a [p])
  (hl:(ps.length+1)*byt<=140737488355328)
  (hK:∀v' h',xn h' v' (ps++[p])->New h0 v'->Sub h0 h'->(∀b,h b≠none->zd v≠some b->h' b=h b)->(zd v'=zd v\/New h v')->K v' h') :
  appW S ty 2 byt [.int .i64 0,.int .u64 0] v (.slice a 1 c) h K:=by
 obtain⟨b,sp,T,rfl,hb⟩:=hs
 have hb0:h0 b=none:=hn b rfl
 have hsb:¬S b:=fun hs=>hi b hs hb0
 obtain⟨ad,rfl,g1,g2⟩:=hx 0 p rfl
 refine⟨pv p,rfl,⟨by simpa using g1,by simpa using g2,trivial⟩,fun v hv=>?_,fun hroom=>?_,fun hgrow=>?_⟩
 ·simp only[pv,List.mem_cons,List.not_mem_nil,or_false]at hv
  rcases hv with rfl | rfl <;> exact KB
 ·simp only[slA,slL,slC]at hroom ⊢
  obtain⟨q,sp,rfl⟩:∃q r,sp=q::r:=by
   cases sp with
   | nil=>exfalso;simp only[List.length_nil]at hroom;omega
   | cons q r=>exact⟨q,r,rfl⟩
  have hsz:(Eng.yF (ps++q::sp)).size=(ps.length+(sp.length+1))*2:=by rw[IG];simp
  have hlt:ps.length<(ps++q::sp).length:=by simp
  have e0:((⟨b,0,none⟩:Addr).add (ps.length*2))=⟨b,ps.length*2,none⟩:=zS _
  rw[e0]
  have ok:∀ {c:Array Value} {h1:Heap} {i:Nat},h1 b=some (.cells c T)->i<c.size->yC S h1 ⟨b,i,none⟩:=fun {c h1 i} hc hi2=>
   ⟨⟨c[i],by simp[ze,hc,hi2]⟩,by simp[yf,hc],hsb⟩
  refine⟨by rw[zo];exact ok hb (by rw[hsz];omega),?_⟩
  rw[zo,hset_cells' hb]
  refine⟨by rw[zo];exact ok upd_same (by rw[Array.size_setIfInBounds,hsz];omega),?_⟩
  rw[zo,hset_cells' upd_same,xA]
  show K (.slice (some ⟨b,0,none⟩) (ps.length+1) (ps.length+(q::sp).length)) (upd h b (.cells (((Eng.yF (ps++q::sp)).setIfInBounds (ps.length*2) (.int .i64 p.1)).setIfInBounds (ps.length*2+1) (.int .u64 p.2)) T))
  rw[KA _ _ hlt]
  have e1:(ps++q::sp).set ps.length (p.1,p.2)=(ps++[p])++sp:=by
   rw[List.set_append_right _ _ (Nat.le_refl _),Nat.sub_self,List.set_cons_zero];simp
  rw[e1]
  refine hK _ _ ⟨b,sp,T,?_,upd_same⟩ (New.of hb0) ?_ (fun x hx hne=>upd_ne fun e=>hne (by rw[e];rfl)) (.inl rfl)
  ·simp;omega
  ·intro x o hx
   rw[upd_ne (fun e=>by rw[e,hb0]at hx;cases hx)];exact hsub x o hx
 ·simp only[slA,slL,slC]at hgrow ⊢
  refine⟨growslice_fits (by omega) hl,ps.flatMap pv,by rw[Mf],?_,fun nc d hnc hd=>?_⟩
  ·
   have key:∀(zs:List Value) (i:Nat),(∀j x,zs[j]? = some x->ze h (((⟨b,0,none⟩:Addr)).add (i+j))=some x)->zt h (⟨b,0,none⟩:Addr) i zs:=by
    intro zs
    induction zs with
    | nil=>intros;trivial
    | cons z r ih=>
     intro i hz
     refine⟨by simpa using hz 0 z rfl,ih (i+1) fun j x hx=>?_⟩
     have:=hz (j+1) x (by simpa using hx)
     rwa[show i+(j+1)=i+1+j by omega]at this
   refine key _ 0 fun j x hx=>?_
   rw[zS,Nat.zero_add]
   simp only[ze,hb,Eng.yF,List.getElem?_toArray,List.flatMap_append]
   rw[List.getElem?_append_left (List.getElem?_eq_some_iff.1 hx).1];exact hx
  ·have hd0:h0 d=none:=by
    cases hh:h0 d with
    | none=>rfl
    | some o=>rw[hsub d o hh]at hd;cases hd
   have e1:((ps.flatMap pv).toArray++(pv p).toArray++Builtin.zeroCells ([.int .i64 0,.int .u64 0]:List Value).toArray (nc-(ps.length+1)))=Eng.yF ((ps++[p])++List.replicate (nc-(ps.length+1)) (0,0)):=by
    rw[IH];simp[Eng.yF]
   rw[e1]
   refine hK _ _ ⟨d,List.replicate (nc-(ps.length+1)) (0,0),ty,?_,by simp[upd]⟩ (New.of hd0) ?_ (fun x hx hne=>?_) (.inr (New.of hd))
   ·simp;omega
   ·intro x o hx
    have:x≠d:=fun e=>by rw[e,hd0]at hx;cases hx
    rw[upd_ne this];exact hsub x o hx
   ·have:x≠d:=fun e=>hx (e▸hd)
    exact upd_ne this
end
def Xl:Ty Value (List (Int×Int)) where
 R h v ps:=∃a c,v=.slice a ps.length c/\jB h a ps
 B v b:=zd v=some b
 O h v ps:=xn h v ps
 Rsub:=by rintro h h' v ps ⟨a,c,e,H⟩ hs;exact⟨a,c,e,H.sub hs⟩
 OR H:=by obtain⟨a,c,e,_,hx⟩:=H.yF;exact⟨a,c,e,hx⟩
 Okeep H hk:=H.keep hk
 Oheld H hb:=H.held _ hb
end Go.Eng
namespace Go.Eng
open Go
def pw(p:Int×Int):List Value:=[.int .i64 p.1,.int .i64 p.2]
def yS(ps:List (Int×Int)):Array Value:=(ps.flatMap pw).toArray
theorem wT(ps:List (Int×Int)):(ps.flatMap pw).length=ps.length*2:=by
 induction ps with
 | nil=>rfl
 | cons p r ih=>simp only[vF,List.length_append,ih,pw,List.length_cons,List.length_nil];omega
theorem II(ps:List (Int×Int)):(yS ps).size=ps.length*2:=by simp only[yS,List.size_toArray];exact wT ps
theorem IJ:∀ {ps:List (Int×Int)} {i:Nat} {p:Int×Int},ps[i]? = some p->(ps.flatMap pw)[i*2]? = some (.int .i64 p.1)/\(ps.flatMap pw)[i*2+1]? = some (.int .i64 p.2)
 | [],i,p,h=>by simp at h
 | q::r,0,p,h=>by
  simp only[vC,Option.some.injEq]at h
  subst h
  exact⟨rfl,rfl⟩
 | q::r,i+1,p,h=>by
  rw[List.getElem?_cons_succ]at h
  have:=IJ h
  rw[vF]
  have e:pw q=[.int .i64 q.1,.int .i64 q.2]:=rfl
  rw[e,show(i+1)*2=i*2+2 by omega]
  exact this
theorem On:∀ {ps:List (Int×Int)} {i:Nat} (x y:Int),ps[i]? = some (x,y)->∀z,(ps.flatMap pw).set (i*2) (.int .i64 z)=(ps.set i (z,y)).flatMap pw
 | [],i,x,y,h,z=>by simp at h
 | q::r,0,x,y,h,z=>by
  simp only[vC,Option.some.injEq]at h
  subst h
  rfl
 | q::r,i+1,x,y,h,z=>by
  have:=On (ps:=r) (i:=i) x y (by simpa using h) z
  rw[List.set_cons_succ,vF,vF,<-this]
  have e:pw q=[.int .i64 q.1,.int .i64 q.2]:=rfl
  rw[e,show(i+1)*2=i*2+2 by omega]
  rfl
theorem Oo:∀ {ps:List (Int×Int)} {i:Nat} (x y:Int),ps[i]? = some (x,y)->∀z,(ps.flatMap pw).set (i*2+1) (.int .i64 z)=(ps.set i (x,z)).flatMap pw
 | [],i,x,y,h,z=>by simp at h
 | q::r,0,x,y,h,z=>by
  simp only[vC,Option.some.injEq]at h
  subst h
  rfl
 | q::r,i+1,x,y,h,z=>by
  have:=Oo (ps:=r) (i:=i) x y (by simpa using h) z
  rw[List.set_cons_succ,vF,vF,<-this]
  have e:pw q=[.int .i64 q.1,.int .i64 q.2]:=rfl
  rw[e,show(i+1)*2+1=i*2+1+2 by omega]
  rfl
theorem KD(n:Nat):yg (n*2) (([.int .i64 0,.int .i64 0]:List Value).toArray)=yS (List.replicate n (0,0)):=by
 apply Array.ext_getElem?
 intro i
 simp only[yg,yS,Array.getElem?_map,List.getElem?_toArray]
 by_cases hi:i<n*2
 ·have e1:(Array.range (n*2))[i]? = some i:=by simp[hi]
  rw[e1]
  have hr:(List.replicate n ((0:Int),(0:Int)))[i/2]? = some (0,0):=by rw[List.getElem?_replicate,if_pos (by omega)]
  have:=IJ hr
  rcases Nat.mod_two_eq_zero_or_one i with h2 | h2
  ·have e2:i=i/2*2:=by omega
   rw[e2,this.1]
   simp[show i/2*2%2=0 by omega]
  ·have e2:i=i/2*2+1:=by omega
   rw[e2,this.2]
   simp[show(i/2*2+1)%2=1 by omega]
 ·have e1:(Array.range (n*2))[i]? = none:=by simp;omega
  rw[e1]
  symm
  rw[Option.map_none,List.getElem?_eq_none]
  rw[wT,List.length_replicate];omega
theorem NK(n:Nat):Builtin.zeroCells ([.int .i64 0,.int .i64 0]:List Value).toArray n=yS (List.replicate n (0,0)):=by
 have:=KD n
 unfold yg at this
 unfold Builtin.zeroCells
 simpa using this
def qm(h:Heap)(a:Option Addr)(ps:List (Int×Int)):Prop:=∀(i:Nat) p,ps[i]? = some p->∃ad,a=some ad/\ze h (ad.add (i*2))=some (.int .i64 p.1)/\ze h (ad.add (i*2+1))=some (.int .i64 p.2)
def qn(h:Heap)(v:Value)(ps:List (Int×Int)):Prop:=
 ∃b sp T,v=.slice (some ⟨b,0,none⟩) ps.length (ps.length+sp.length)/\h b=some (.cells (yS (ps++sp)) T)
def kj(zs:List Value)(n:Nat)(ys:List Value):List Value:=zs.take n++ys++zs.drop (n+ys.length)
theorem Dm{S:Shared}{b off:Nat}{T:TypeId}{K:Heap->Prop}(hs:¬S b):∀(ys:List Value) (i:Nat) (h:Heap) (zs:List Value),h b=some (.cells zs.toArray T)->off+i+ys.length<=zs.length ->
  K (upd h b (.cells (kj zs (off+i) ys).toArray T))->zL S ⟨b,off,none⟩ i ys h K:=by
 intro ys
 induction ys with
 | nil=>
  intro i h zs hb _ hK
  have e:kj zs (off+i) []=zs:=by simp[kj]
  rw[e,jP hb]at hK
  exact hK
 | cons y r ih=>
  intro i h zs hb hl hK
  simp only[List.length_cons]at hl
  refine⟨⟨⟨zs[off+i]'(by omega),?_⟩,?_,?_⟩,?_⟩
  ·rw[zo];simp[ze,hb]
  ·rw[zo];simp[yf,hb]
  ·rw[zo];exact hs
  ·have e1:zw h ((⟨b,off,none⟩:Addr).add i) y=upd h b (.cells (zs.set (off+i) y).toArray T):=by
    rw[zo];funext x;unfold zw upd
    by_cases hx:x=b
    ·subst hx;simp[hb]
    ·simp[hx]
   rw[e1]
   refine ih (i+1) _ (zs.set (off+i) y) (by simp[upd]) (by simp;omega) ?_
   rw[xA]
   have e2:kj (zs.set (off+i) y) (off+(i+1)) r=kj zs (off+i) (y::r):=by
    unfold kj
    rw[show off+(i+1)=off+i+1 by omega,List.take_add_one,List.take_set_of_le (by omega),List.drop_set_of_lt (by omega)]
    simp only[List.length_cons]
    rw[List.getElem?_set_self (by omega)]
    simp[show off+i+1+r.length=off+i+(r.length+1) by omega]
   rw[e2];exact hK
section
variable {h h0 h' : Heap} {v : Value} {ps qs : List (Int × Int)} {a : Option Addr}
theorem qm.cell(H:qm h a ps){i:Nat}{p:Int×Int}(hp:ps[i]? = some p):ze h ((a.getD default).add (i*2))=some (.int .i64 p.1)/\ze h ((a.getD default).add (i*2+1))=some (.int .i64 p.2)/\a.isSome=true:=by
 obtain⟨ad,rfl,h1,h2⟩:=H i p hp;exact⟨h1,h2,rfl⟩
theorem qm.of{b:Nat}{T:TypeId}{sp:List (Int×Int)}(hb:h b=some (.cells (yS (ps++sp)) T)):qm h (some ⟨b,0,none⟩) ps:=fun i p hp=>by
 have hp2:(ps++sp)[i]? = some p:=by rw[List.getElem?_append_left (List.getElem?_eq_some_iff.1 hp).1];exact hp
 have:=IJ hp2
 refine⟨_,rfl,?_,?_⟩ <;> rw[zS] <;> simp only[ze,hb,yS,List.getElem?_toArray]
 ·exact this.1
 ·exact this.2
theorem qn.yF(H:qn h v ps):∃a c,v=.slice a ps.length c/\ps.length<=c/\qm h a ps:=by
 obtain⟨b,sp,T,rfl,hb⟩:=H
 exact⟨_,_,rfl,by omega,qm.of hb⟩
theorem qn.keep(H:qn h v ps)(hk:∀b,zd v=some b->h' b=h b):qn h' v ps:=by
 obtain⟨b,sp,T,rfl,hb⟩:=H
 exact⟨b,sp,T,rfl,by rw[hk b rfl];exact hb⟩
theorem qn.held(H:qn h v ps):∀b,zd v=some b->h b≠none:=by
 obtain⟨b,sp,T,rfl,hb⟩:=H
 intro b' hb';cases hb';rw[hb];simp
theorem qn.XQ{S:Shared}{l c:Nat}(H:qn h (.slice a l c) ps)(hs:∀b,zd (.slice a l c)=some b->¬S b){i:Nat}{x y:Int}(hi:ps[i]? = some (x,y))(z:Int) :
  yC S h ((((a.getD default).add (i*2)).add 0).add 0)/\qn (zw h ((((a.getD default).add (i*2)).add 0).add 0) (.int .i64 z)) (.slice a l c) (ps.set i (z,y)) /\
  ∀w,zd (.slice a l c)≠some w->zw h ((((a.getD default).add (i*2)).add 0).add 0) (.int .i64 z) w=h w:=by
 obtain⟨b,sp,T,e,hb⟩:=H
 cases e
 have hsb:=hs b rfl
 have hlt:=(List.getElem?_eq_some_iff.1 hi).1
 have e1:((((some (⟨b,0,none⟩:Addr)).getD default).add (i*2)).add 0).add 0=(⟨b,i*2,none⟩:Addr):=by
  rw[add_add,add_add,Option.getD_some,zo];simp
 have hi2:(ps++sp)[i]? = some (x,y):=by rw[List.getElem?_append_left hlt];exact hi
 have hsz:(yS (ps++sp)).size=(ps++sp).length*2:=II _
 rw[e1,hset_cells' hb]
 have e2:(yS (ps++sp)).setIfInBounds (i*2) (.int .i64 z)=yS (ps.set i (z,y)++sp):=by
  unfold yS
  rw[List.setIfInBounds_toArray,On x y hi2,List.set_append_left _ _ hlt]
 refine⟨⟨⟨(yS (ps++sp))[i*2]'(by rw[hsz];simp;omega),by simp[ze,hb]⟩,by simp[yf,hb],hsb⟩,⟨b,sp,T,by simp,by rw[upd_same,e2]⟩,fun w hw=>upd_ne fun e=>hw (by rw[e];rfl)⟩
theorem qn.XR{S:Shared}{l c:Nat}(H:qn h (.slice a l c) ps)(hs:∀b,zd (.slice a l c)=some b->¬S b){i:Nat}{x y:Int}(hi:ps[i]? = some (x,y))(z:Int) :
  yC S h ((((a.getD default).add (i*2)).add 1).add 0)/\qn (zw h ((((a.getD default).add (i*2)).add 1).add 0) (.int .i64 z)) (.slice a l c) (ps.set i (x,z)) /\
  ∀w,zd (.slice a l c)≠some w->zw h ((((a.getD default).add (i*2)).add 1).add 0) (.int .i64 z) w=h w:=by
 obtain⟨b,sp,T,e,hb⟩:=H
 cases e
 have hsb:=hs b rfl
 have hlt:=(List.getElem?_eq_some_iff.1 hi).1
 have e1:((((some (⟨b,0,none⟩:Addr)).getD default).add (i*2)).add 1).add 0=(⟨b,i*2+1,none⟩:Addr):=by
  rw[add_add,add_add,Option.getD_some,zo];simp
 have hi2:(ps++sp)[i]? = some (x,y):=by rw[List.getElem?_append_left hlt];exact hi
 have hsz:(yS (ps++sp)).size=(ps++sp).length*2:=II _
 rw[e1,hset_cells' hb]
 have e2:(yS (ps++sp)).setIfInBounds (i*2+1) (.int .i64 z)=yS (ps.set i (x,z)++sp):=by
  unfold yS
  rw[List.setIfInBounds_toArray,Oo x y hi2,List.set_append_left _ _ hlt]
 refine⟨⟨⟨(yS (ps++sp))[i*2+1]'(by rw[hsz];simp;omega),by simp[ze,hb]⟩,by simp[yf,hb],hsb⟩,⟨b,sp,T,by simp,by rw[upd_same,e2]⟩,fun w hw=>upd_ne fun e=>hw (by rw[e];rfl)⟩
theorem AK{ad:Addr}:∀(zs:List Value) (i:Nat),(∀j x,zs[j]? = some x->ze h (ad.add (i+j))=some x)->zt h ad i zs
 | [],_,_=>trivial
 | z::r,i,hz=>⟨by simpa using hz 0 z rfl,AK r (i+1) fun j x hx=>by
   have:=hz (j+1) x (by simpa using hx)
   rwa[show i+(j+1)=i+1+j by omega]at this⟩
theorem qm.cells(H:qm h a qs):k9 h a (qs.flatMap pw):=by
 unfold k9
 cases a with
 | none=>
  cases qs with
  | nil=>rfl
  | cons y r=>obtain⟨ad,h1,_⟩:=H 0 y rfl;cases h1
 | some ad=>
  refine AK _ 0 fun j x hx=>?_
  have hj:j<qs.length*2:=by rw[<-wT];exact(List.getElem?_eq_some_iff.1 hx).1
  have hq:qs[j/2]? = some (qs[j/2]'(by omega)):=List.getElem?_eq_getElem (by omega)
  obtain⟨ad',e,h1,h2⟩:=H _ _ hq
  cases e
  have hg:=IJ hq
  rw[Nat.zero_add]
  rcases Nat.mod_two_eq_zero_or_one j with h | h
  ·have e2:j=j/2*2:=by omega
   rw[e2,hg.1]at hx
   rw[e2,<-hx];exact h1
  ·have e2:j=j/2*2+1:=by omega
   rw[e2,hg.2]at hx
   rw[e2,<-hx];exact h2
theorem QV{S:Shared}{ty:TypeId}{byt:Nat}{a:Option Addr}{c:Nat}{K:Value->Heap->Prop}(hi:Inv S h0)(hsub:Sub h0 h)(hs:qn h v ps)(hn:New h0 v)(hx:qm h a qs)
  (hl:(ps.length+qs.length)*byt<=140737488355328)
  (hK:∀v' h',qn h' v' (ps++qs)->New h0 v'->Sub h0 h'->(∀b,h b≠none->zd v≠some b->h' b=h b)->(zd v'=zd v\/New h v')->K v' h') :
  appW S ty 2 byt [.int .i64 0,.int .i64 0] v (.slice a qs.length c) h K:=by
 obtain⟨b,sp,T,rfl,hb⟩:=hs
 have hb0:h0 b=none:=hn b rfl
 have hsb:¬S b:=fun hs=>hi b hs hb0
 refine⟨qs.flatMap pw,by rw[wT];rfl,hx.cells,fun v hv=>?_,fun hroom=>?_,fun hgrow=>?_⟩
 ·obtain⟨q,_,hv⟩:=List.mem_flatMap.1 hv
  simp only[pw,List.mem_cons,List.not_mem_nil,or_false]at hv
  rcases hv with rfl | rfl <;> exact KB
 ·simp only[slA,slL,slC]at hroom ⊢
  have e0:(⟨b,0,none⟩:Addr).add (ps.length*2)=⟨b,ps.length*2,none⟩:=zS _
  rw[e0]
  refine Dm hsb (qs.flatMap pw) 0 h ((ps++sp).flatMap pw) hb (by rw[wT,wT];simp;omega) ?_
  have e1:kj ((ps++sp).flatMap pw) (ps.length*2+0) (qs.flatMap pw)=((ps++qs)++sp.drop qs.length).flatMap pw:=by
   unfold kj
   have t1:((ps++sp).flatMap pw).take (ps.length*2)=ps.flatMap pw:=by rw[List.flatMap_append,List.take_left' (wT _)]
   have t2:∀(zs:List (Int×Int)) n,(zs.flatMap pw).drop (n*2)=(zs.drop n).flatMap pw:=by
    intro zs
    induction zs with
    | nil=>intro n;simp
    | cons z r ih=>
     intro n
     cases n with
     | zero=>simp
     | succ n=>
      rw[List.drop_succ_cons,<-ih n,vF,show(n+1)*2=n*2+2 by omega]
      rfl
   rw[Nat.add_zero,t1,wT,show ps.length*2+qs.length*2=(ps.length+qs.length)*2 by omega,t2,List.drop_length_add_append]
   simp[List.flatMap_append]
  rw[e1]
  refine hK _ _ ⟨b,sp.drop qs.length,T,?_,upd_same⟩ (New.of hb0) ?_ (fun x hx hne=>upd_ne fun e=>hne (by rw[e];rfl)) (.inl rfl)
  ·simp;omega
  ·intro x o hx
   rw[upd_ne (fun e=>by rw[e,hb0]at hx;cases hx)];exact hsub x o hx
 ·simp only[slA,slL,slC]at hgrow ⊢
  refine⟨growslice_fits (by omega) hl,ps.flatMap pw,by rw[wT],(qm.of hb).cells,fun nc d hnc hd=>?_⟩
  have hd0:h0 d=none:=by
   cases hh:h0 d with
   | none=>rfl
   | some o=>rw[hsub d o hh]at hd;cases hd
  have e1:((ps.flatMap pw).toArray++(qs.flatMap pw).toArray++Builtin.zeroCells ([.int .i64 0,.int .i64 0]:List Value).toArray (nc-(ps.length+qs.length)))=yS ((ps++qs)++List.replicate (nc-(ps.length+qs.length)) (0,0)):=by
   rw[NK];simp[yS]
  rw[e1]
  refine hK _ _ ⟨d,List.replicate (nc-(ps.length+qs.length)) (0,0),ty,?_,by simp[upd]⟩ (New.of hd0) ?_ (fun x hx hne=>?_) (.inr (New.of hd))
  ·simp;omega
  ·intro x o hx
   have:x≠d:=fun e=>by rw[e,hd0]at hx;cases hx
   rw[upd_ne this];exact hsub x o hx
  ·have:x≠d:=fun e=>hx (e▸hd)
   exact upd_ne this
end
end Go.Eng
namespace Go.Eng
structure TI(E:Nat->Nat->Prop)(Y:Nat->Nat->Nat)(T P:List (Nat×Nat)):Prop where
 len:P.length=T.length
 root:P[0]? = some (0,0)
 inj:∀ {j k:Nat} {p:Nat×Nat},P[j]? = some p->P[k]? = some p->j=k
 kid:∀ {k s q l v:Nat},T[k]? = some (s,q)->P[k]? = some (l,v)->q≠0->P[q]? = some (l+1,v)/\P[q+1]? = some (l+1,v+2^l)
 par:∀ {j l v:Nat},P[j]? = some (l+1,v)->∃k s q:Nat,P[k]? = some (l,v%2^l)/\T[k]? = some (s,q)/\q≠0
 ext:∀ {k s q l v:Nat},T[k]? = some (s,q)->P[k]? = some (l,v)->(q≠0<->E l v)
 sym:∀ {k s q l v:Nat},T[k]? = some (s,q)->P[k]? = some (l,v)->s=Y l v
 lt:∀ {k l v:Nat},P[k]? = some (l,v)->v<2^l
theorem TI.start:TI (fun _ _=>False) (fun _ _=>0) [(0,0)] [(0,0)]:=by
 refine⟨rfl,rfl,?_,?_,?_,?_,?_,?_⟩
 ·intro j k p h1 h2
  have h1:=(List.getElem?_eq_some_iff.1 h1).1
  have h2:=(List.getElem?_eq_some_iff.1 h2).1
  simp at h1 h2;omega
 ·intro k s q l v h1 _ hq
  have hk:=(List.getElem?_eq_some_iff.1 h1).1
  obtain rfl:k=0:=by simpa using hk
  simp at h1;omega
 ·intro j l v h
  have hk:=(List.getElem?_eq_some_iff.1 h).1
  obtain rfl:j=0:=by simpa using hk
  simp at h
 ·intro k s q l v h1 _
  have hk:=(List.getElem?_eq_some_iff.1 h1).1
  obtain rfl:k=0:=by simpa using hk
  simp at h1;simp[<-h1.2]
 ·intro k s q l v h1 _
  have hk:=(List.getElem?_eq_some_iff.1 h1).1
  obtain rfl:k=0:=by simpa using hk
  simp at h1;omega
 ·intro k l v h
  have hk:=(List.getElem?_eq_some_iff.1 h).1
  obtain rfl:k=0:=by simpa using hk
  simp at h
  obtain⟨rfl,rfl⟩:=h
  decide
theorem DD{v l:Nat}(h:v<2^l):v%2^l=v:=Nat.mod_eq_of_lt h
theorem Cd{v l:Nat}(h:v<2^l):(v+2^l)%2^l=v:=by rw[Nat.add_mod_right];exact Nat.mod_eq_of_lt h
theorem TI.congr{E E':Nat->Nat->Prop}{Y Y':Nat->Nat->Nat}{T P:List (Nat×Nat)}(H:TI E Y T P)(hE:∀l v,v<2^l->(E l v<->E' l v))(hY:∀l v,v<2^l->Y l v=Y' l v):TI E' Y' T P where
 len:=H.len
 root:=H.root
 inj:=H.inj
 kid:=H.kid
 par:=H.par
 ext h1 h2:=(H.ext h1 h2).trans (hE _ _ (H.lt h2))
 sym h1 h2:=(H.sym h1 h2).trans (hY _ _ (H.lt h2))
 lt:=H.lt
theorem TI.get{E:Nat->Nat->Prop}{Y:Nat->Nat->Nat}{T P:List (Nat×Nat)}(H:TI E Y T P){k:Nat}{p:Nat×Nat}(h:P[k]? = some p):∃s q,T[k]? = some (s,q):=by
 have hk:=(List.getElem?_eq_some_iff.1 h).1
 rw[H.len]at hk
 exact⟨T[k].1,T[k].2,List.getElem?_eq_getElem hk⟩
theorem TI.grow{E:Nat->Nat->Prop}{Y:Nat->Nat->Nat}{T P:List (Nat×Nat)}(H:TI E Y T P){k s l v:Nat}(hT:T[k]? = some (s,0))(hP:P[k]? = some (l,v))
  (hE:∀l v,v<2^(l+1)->E (l+1) v->E l (v%2^l))(hY:∀l v,v<2^(l+1)->Y (l+1) v≠0->E l (v%2^l)) :
  TI (fun l' v'=>E l' v'\/(l'=l/\v'=v)) Y (T.set k (s,T.length)++[(0,0),(0,0)]) (P++[(l+1,v),(l+1,v+2^l)]):=by
 have hk:=(List.getElem?_eq_some_iff.1 hT).1
 have hv:=H.lt hP
 have hnE:¬E l v:=fun h=>(H.ext hT hP).2 h rfl
 have hTl:T.length≠0:=by omega
 have hpow:2^(l+1)=2*2^l:=by rw[Nat.pow_succ];omega
 have hno:∀ {j v'},P[j]? = some (l+1,v')->v'%2^l=v->False:=fun {j v'} hj e=>by
  obtain⟨k',s',q',h1,h2,h3⟩:=H.par hj
  rw[e]at h1
  have:=H.inj h1 hP
  subst this
  rw[hT]at h2
  simp at h2
  exact h3 h2.2.symm
 have oldP:∀ {j p},P[j]? = some p->(P++[(l+1,v),(l+1,v+2^l)])[j]? = some p:=fun {j p} h=>by
  rw[List.getElem?_append_left (List.getElem?_eq_some_iff.1 h).1];exact h
 have new0:(P++[(l+1,v),(l+1,v+2^l)])[T.length]? = some (l+1,v):=by rw[List.getElem?_append_right (by rw[H.len];omega),H.len,Nat.sub_self];rfl
 have new1:(P++[(l+1,v),(l+1,v+2^l)])[T.length+1]? = some (l+1,v+2^l):=by rw[List.getElem?_append_right (by rw[H.len];omega),H.len,Nat.add_sub_cancel_left];rfl
 have casesP:∀ {j p},(P++[(l+1,v),(l+1,v+2^l)])[j]? = some p->(P[j]? = some p/\j<T.length)\/(j=T.length/\p=(l+1,v))\/(j=T.length+1/\p=(l+1,v+2^l)):=fun {j p} h=>by
  have hj:=(List.getElem?_eq_some_iff.1 h).1
  simp only[List.length_append,List.length_cons,List.length_nil,H.len]at hj
  rcases Nat.lt_or_ge j T.length with h1 | h1
  ·rw[List.getElem?_append_left (by rw[H.len];omega)]at h;exact .inl ⟨h,h1⟩
  ·rcases(show j=T.length\/j=T.length+1 by omega)with rfl | rfl
   ·rw[new0]at h;exact .inr (.inl ⟨rfl,(Option.some.inj h).symm⟩)
   ·rw[new1]at h;exact .inr (.inr ⟨rfl,(Option.some.inj h).symm⟩)
 have casesT:∀ {j e},(T.set k (s,T.length)++[(0,0),(0,0)])[j]? = some e->(j=k/\e=(s,T.length))\/(j≠k/\j<T.length/\T[j]? = some e)\/((j=T.length\/j=T.length+1)/\e=(0,0)):=fun {j e} h=>by
  have hj:=(List.getElem?_eq_some_iff.1 h).1
  simp only[List.length_append,List.length_cons,List.length_nil,List.length_set]at hj
  rcases Nat.lt_or_ge j T.length with h1 | h1
  ·rw[List.getElem?_append_left (by rw[List.length_set];exact h1),List.getElem?_set]at h
   by_cases he:k=j
   ·subst he;rw[if_pos rfl,if_pos h1]at h;exact .inl ⟨rfl,(Option.some.inj h).symm⟩
   ·rw[if_neg he]at h;exact .inr (.inl ⟨fun e=>he e.symm,h1,h⟩)
  ·rw[List.getElem?_append_right (by rw[List.length_set];exact h1),List.length_set]at h
   rcases(show j=T.length\/j=T.length+1 by omega)with rfl | rfl
   ·rw[Nat.sub_self]at h;exact .inr (.inr ⟨.inl rfl,(Option.some.inj h).symm⟩)
   ·rw[Nat.add_sub_cancel_left]at h;exact .inr (.inr ⟨.inr rfl,(Option.some.inj h).symm⟩)
 refine⟨by simp[H.len],oldP H.root,?_,?_,?_,?_,?_,?_⟩
 ·intro j j' p h1 h2
  rcases casesP h1 with⟨a1,a2⟩ | ⟨rfl,rfl⟩ | ⟨rfl,rfl⟩ <;> rcases casesP h2 with⟨b1,b2⟩ | ⟨rfl,e⟩ | ⟨rfl,e⟩
  ·exact H.inj a1 b1
  ·subst e;exact(hno a1 (DD hv)).elim
  ·subst e;exact(hno a1 (Cd hv)).elim
  ·exact(hno b1 (DD hv)).elim
  ·rfl
  ·simp at e
  ·exact(hno b1 (Cd hv)).elim
  ·simp at e
  ·rfl
 ·intro j s' q l' v' h1 h2 hq
  rcases casesT h1 with⟨rfl,e⟩ | ⟨hne,hlt,h1⟩ | ⟨hj,e⟩
  ·simp only[Prod.mk.injEq]at e
   obtain⟨rfl,rfl⟩:=e
   have:=oldP hP
   rw[h2]at this
   simp only[Option.some.injEq,Prod.mk.injEq]at this
   obtain⟨rfl,rfl⟩:=this
   exact⟨new0,new1⟩
  ·rcases casesP h2 with⟨a1,a2⟩ | ⟨rfl,_⟩ | ⟨rfl,_⟩
   ·have:=H.kid h1 a1 hq
    exact⟨oldP this.1,oldP this.2⟩
   ·omega
   ·omega
  ·simp only[Prod.mk.injEq]at e;exact absurd e.2 hq
 ·intro j l' v' h
  rcases casesP h with⟨a1,a2⟩ | ⟨rfl,e⟩ | ⟨rfl,e⟩
  ·obtain⟨k',s',q',b1,b2,b3⟩:=H.par a1
   refine⟨k',?_⟩
   by_cases he:k'=k
   ·subst he
    exact⟨s,T.length,oldP b1,by rw[List.getElem?_append_left (by rw[List.length_set];exact hk),List.getElem?_set_self hk],hTl⟩
   ·have hk':=(List.getElem?_eq_some_iff.1 b2).1
    exact⟨s',q',oldP b1,by rw[List.getElem?_append_left (by rw[List.length_set];exact hk'),List.getElem?_set_ne (fun e=>he e.symm)];exact b2,b3⟩
  ·simp only[Prod.mk.injEq,Nat.add_right_cancel_iff]at e
   obtain⟨rfl,rfl⟩:=e
   exact⟨k,s,T.length,by rw[DD hv];exact oldP hP,by rw[List.getElem?_append_left (by rw[List.length_set];exact hk),List.getElem?_set_self hk],hTl⟩
  ·simp only[Prod.mk.injEq,Nat.add_right_cancel_iff]at e
   obtain⟨rfl,rfl⟩:=e
   exact⟨k,s,T.length,by rw[Cd hv];exact oldP hP,by rw[List.getElem?_append_left (by rw[List.length_set];exact hk),List.getElem?_set_self hk],hTl⟩
 ·intro j s' q l' v' h1 h2
  rcases casesT h1 with⟨rfl,e⟩ | ⟨hne,hlt,h1⟩ | ⟨hj,e⟩
  ·simp only[Prod.mk.injEq]at e
   obtain⟨rfl,rfl⟩:=e
   have:=oldP hP
   rw[h2]at this
   simp only[Option.some.injEq,Prod.mk.injEq]at this
   obtain⟨rfl,rfl⟩:=this
   exact⟨fun _=>.inr ⟨rfl,rfl⟩,fun _=>hTl⟩
  ·rcases casesP h2 with⟨a1,a2⟩ | ⟨rfl,_⟩ | ⟨rfl,_⟩
   ·refine(H.ext h1 a1).trans ⟨.inl,fun h=>h.elim id fun⟨e1,e2⟩=>?_⟩
    subst e1;subst e2
    exact(hne (H.inj a1 hP)).elim
   ·omega
   ·omega
  ·simp only[Prod.mk.injEq]at e
   obtain⟨rfl,rfl⟩:=e
   rcases casesP h2 with⟨a1,a2⟩ | ⟨rfl,e⟩ | ⟨rfl,e⟩
   ·omega
   ·simp only[Prod.mk.injEq]at e
    obtain⟨rfl,rfl⟩:=e
    refine⟨fun h=>(h rfl).elim,fun h=>h.elim (fun h=>?_) (fun h=>by omega)⟩
    have:=hE l v' (by omega) h
    rw[DD hv]at this
    exact(hnE this).elim
   ·simp only[Prod.mk.injEq]at e
    obtain⟨rfl,rfl⟩:=e
    refine⟨fun h=>(h rfl).elim,fun h=>h.elim (fun h=>?_) (fun h=>by omega)⟩
    have:=hE l _ (by omega) h
    rw[Cd hv]at this
    exact(hnE this).elim
 ·intro j s' q l' v' h1 h2
  rcases casesT h1 with⟨rfl,e⟩ | ⟨hne,hlt,h1⟩ | ⟨hj,e⟩
  ·simp only[Prod.mk.injEq]at e
   obtain⟨rfl,rfl⟩:=e
   have:=oldP hP
   rw[h2]at this
   simp only[Option.some.injEq,Prod.mk.injEq]at this
   obtain⟨rfl,rfl⟩:=this
   exact H.sym hT hP
  ·rcases casesP h2 with⟨a1,a2⟩ | ⟨rfl,_⟩ | ⟨rfl,_⟩
   ·exact H.sym h1 a1
   ·omega
   ·omega
  ·simp only[Prod.mk.injEq]at e
   obtain⟨rfl,rfl⟩:=e
   rcases casesP h2 with⟨a1,a2⟩ | ⟨rfl,e⟩ | ⟨rfl,e⟩
   ·omega
   ·simp only[Prod.mk.injEq]at e
    obtain⟨rfl,rfl⟩:=e
    refine Classical.byContradiction fun h=>?_
    have:=hY l v' (by omega) (fun e=>h e.symm)
    rw[DD hv]at this
    exact hnE this
   ·simp only[Prod.mk.injEq]at e
    obtain⟨rfl,rfl⟩:=e
    refine Classical.byContradiction fun h=>?_
    have:=hY l _ (by omega) (fun e=>h e.symm)
    rw[Cd hv]at this
    exact hnE this
 ·intro j l' v' h
  rcases casesP h with⟨a1,a2⟩ | ⟨rfl,e⟩ | ⟨rfl,e⟩
  ·exact H.lt a1
  ·simp only[Prod.mk.injEq]at e;obtain⟨rfl,rfl⟩:=e;omega
  ·simp only[Prod.mk.injEq]at e;obtain⟨rfl,rfl⟩:=e;omega
theorem TI.put{E:Nat->Nat->Prop}{Y:Nat->Nat->Nat}{T P:List (Nat×Nat)}(H:TI E Y T P){k s q l v:Nat}(hT:T[k]? = some (s,q))(hP:P[k]? = some (l,v))(y:Nat) :
  TI E (fun l' v'=>if l'=l/\v'=v then y else Y l' v') (T.set k (y,q)) P:=by
 have hk:=(List.getElem?_eq_some_iff.1 hT).1
 have casesT:∀ {j e},(T.set k (y,q))[j]? = some e->(j=k/\e=(y,q))\/(j≠k/\T[j]? = some e):=fun {j e} h=>by
  rw[List.getElem?_set]at h
  by_cases he:k=j
  ·subst he;rw[if_pos rfl,if_pos hk]at h;exact .inl ⟨rfl,(Option.some.inj h).symm⟩
  ·rw[if_neg he]at h;exact .inr ⟨fun e=>he e.symm,h⟩
 refine⟨by rw[List.length_set];exact H.len,H.root,H.inj,?_,?_,?_,?_,H.lt⟩
 ·intro j s' q' l' v' h1 h2 hq
  rcases casesT h1 with⟨rfl,e⟩ | ⟨_,h1⟩
  ·simp only[Prod.mk.injEq]at e;obtain⟨rfl,rfl⟩:=e;exact H.kid hT h2 hq
  ·exact H.kid h1 h2 hq
 ·intro j l' v' h
  obtain⟨k',s',q',b1,b2,b3⟩:=H.par h
  by_cases he:k'=k
  ·subst he
   rw[hT]at b2
   simp only[Option.some.injEq,Prod.mk.injEq]at b2
   obtain⟨rfl,rfl⟩:=b2
   exact⟨k',y,q,b1,List.getElem?_set_self hk,b3⟩
  ·exact⟨k',s',q',b1,by rw[List.getElem?_set_ne (fun e=>he e.symm)];exact b2,b3⟩
 ·intro j s' q' l' v' h1 h2
  rcases casesT h1 with⟨rfl,e⟩ | ⟨_,h1⟩
  ·simp only[Prod.mk.injEq]at e;obtain⟨rfl,rfl⟩:=e;exact H.ext hT h2
  ·exact H.ext h1 h2
 ·intro j s' q' l' v' h1 h2
  rcases casesT h1 with⟨rfl,e⟩ | ⟨hne,h1⟩
  ·simp only[Prod.mk.injEq]at e;obtain⟨rfl,rfl⟩:=e
   rw[hP]at h2
   simp only[Option.some.injEq,Prod.mk.injEq]at h2
   obtain⟨rfl,rfl⟩:=h2
   simp
  ·rw[if_neg]
   ·exact H.sym h1 h2
   ·rintro⟨rfl,rfl⟩;exact hne (H.inj h2 hP)
end Go.Eng
namespace Go.Eng
open Go
def G7(h:Heap)(a:Option Addr)(vs:List Value):Prop:=∀(i:Nat) v,vs[i]? = some v->∃ad,a=some ad/\ze h (ad.add i)=some v
def Mi(h:Heap)(v:Value)(vs:List Value):Prop:=
 ∃b sp T,v=.slice (some ⟨b,0,none⟩) vs.length (vs.length+sp.length)/\h b=some (.cells (vs++sp).toArray T)
section
variable {h h0 h' : Heap} {v : Value} {vs : List Value} {a : Option Addr}
theorem G7.cell(H:G7 h a vs){i:Nat}{v:Value}(hp:vs[i]? = some v):ze h ((a.getD default).add i)=some v/\a.isSome=true:=by
 obtain⟨ad,rfl,h1⟩:=H i v hp;exact⟨h1,rfl⟩
theorem G7.of{b:Nat}{T:TypeId}{sp:List Value}(hb:h b=some (.cells (vs++sp).toArray T)):G7 h (some ⟨b,0,none⟩) vs:=fun i v hv=>by
 have hp2:(vs++sp)[i]? = some v:=by rw[List.getElem?_append_left (List.getElem?_eq_some_iff.1 hv).1];exact hv
 exact⟨_,rfl,by rw[zS];simp only[ze,hb,List.getElem?_toArray];exact hp2⟩
theorem Mi.vals(H:Mi h v vs):∃a c,v=.slice a vs.length c/\vs.length<=c/\G7 h a vs:=by
 obtain⟨b,sp,T,rfl,hb⟩:=H
 exact⟨_,_,rfl,by omega,G7.of hb⟩
theorem Mi.keep(H:Mi h v vs)(hk:∀b,zd v=some b->h' b=h b):Mi h' v vs:=by
 obtain⟨b,sp,T,rfl,hb⟩:=H
 exact⟨b,sp,T,rfl,by rw[hk b rfl];exact hb⟩
end
end Go.Eng
namespace Go.Eng
open Go
theorem Part.put{S:Shared}{k:IntKind}{h:Heap}{v:Value}{xs:List Int}(H:Part k h v xs)(hs:∀b,zd v=some b->¬S b){i:Nat}(hi:i<xs.length)(x:Int){K:Heap->Prop}
  (hK:∀h',Part k h' v (xs.set i x)->(∀b,zd v≠some b->h' b=h b)->K h'):zL S (((slA v).getD default).add (i*1)) 0 [.int k x] h K:=by
 rcases H with⟨rfl,rfl⟩ | ⟨b,pr,sp,re,T,rfl,hb⟩
 ·simp at hi
 have hsb:=hs b rfl
 rw[zh,Option.getD_some,Nat.mul_one,zo]
 refine jQ (T:=T) (k:=k) hsb [x] 0 h (pr++xs++sp++re) hb (by simp;omega) ?_
 refine hK _ (.inr ⟨b,pr,sp,re,T,by rw[List.length_set],?_⟩) fun b' hb'=>upd_ne fun e=>hb' (by rw[e];rfl)
 rw[upd_same]
 congr 3
 unfold xP
 have e1:(pr++xs++sp++re).take (pr.length+i+0)=pr++xs.take i:=by
  rw[Nat.add_zero,List.append_assoc,List.append_assoc,List.take_length_add_append,List.take_append_of_le_length (by omega)]
 have e2:(pr++xs++sp++re).drop (pr.length+i+0 + [x].length)=xs.drop (i+1)++sp++re:=by
  rw[List.append_assoc,List.append_assoc,show pr.length+i+0 + [x].length=pr.length+(i+1) by simp;omega,List.drop_length_add_append,List.drop_append_of_le_length (by omega),List.append_assoc]
 rw[e1,e2,List.set_eq_take_append_cons_drop,if_pos hi]
 simp[List.append_assoc]
end Go.Eng
namespace Go.Eng
open Go
def yU(P:Program)(S:Shared)(h:Heap)(B:Nat){α:Type}:Sem α->List Value->World->(α->World->Prop)->Prop
 | .pure a,_,w,K=>K a w
 | .load m a k,v::vs,w,K=>m=.plain/\(h a.block≠none\/B<=a.block)/\w.cell? a=some v/\yU P S h B (k v) vs w K
 | .store m a v k,vs,w,K=>m=.plain/\(h a.block≠none\/B<=a.block)/\¬S a.block/\(∃u,w.cell? a=some u)/\w.frozen? a=false/\v.cells=#[v]/\(∀x,v ≠ .tuple x)/\(∀x,v ≠ .agg x) /\
   yU P S h B k vs (w.setCell a v) K
 | .new o k,vs,w,K=>yU P S h B (k w.heap.size) vs { w with heap:=w.heap.push o } K
 | .program k,vs,w,K=>yU P S h B (k P) vs w K
 | .mark m k,vs,w,K=>Quiet m/\yU P S h B k vs w K
 | _,_,_,_=>False
theorem Ps{P:Program}{S:Shared}{h:Heap}{B:Nat}{α:Type}(s:Sem α):∀ {vs:List Value} {w:World} {K:α->World->Prop},yU P S h B s vs w K->wpE P S h B s w K:=by
 induction s with
 | pure a=>exact fun H=>H
 | load m a k ih=>
  intro vs w K H
  cases vs with
  | nil=>exact H.elim
  | cons v vs=>obtain⟨h1,h2,h3,H⟩:=H;exact⟨h1,h2,v,h3,ih v H⟩
 | store m a v k ih=>rintro vs w K ⟨h1,h2,h3,h4,h5,h6,h7,h8,H⟩;exact⟨h1,h2,h3,h4,h5,h6,h7,h8,ih H⟩
 | new o k ih=>exact fun H=>ih _ H
 | program k ih=>exact fun H=>ih _ H
 | mark m k ih=>exact fun H=>⟨H.1,ih H.2⟩
 | shape r k ih=>exact fun H=>H.elim
 | freeze a n k ih=>exact fun H=>H.elim
 | frozen a k ih=>exact fun H=>H.elim
 | getObj r k ih=>exact fun H=>H.elim
 | setObj r o k ih=>exact fun H=>H.elim
 | choose q k ih=>exact fun H=>H.elim
 | sys c k ih=>exact fun H=>H.elim
 | halt h=>exact fun H=>H.elim
section
variable {P : Program} {S : Shared} {h : Heap} {f : FuncId} {args : Array Value}
theorem zb.Lw{R:Value->Heap->Prop}(vs:List Value)(H:∀w,Has w h->yU P S h w.heap.size (callFunc f args) vs w fun n w'=>∃v h',n=.value v/\Inv S h'/\Kept S h h' w w'/\R v h'):zb P S f args h R:=
 .inr fun w hw=>Ps _ (H w hw)
theorem Ev{x:Value}(hi:Inv S h)(E:∀(w:World) (K:Next->World->Prop),yU P S h w.heap.size (callFunc f args) [] w K=(True/\K (.value x) w)) :
  zb P S f args h (fun v h'=>v=x/\h'=h):=
 .Lw [] fun w hw=>by rw[E];exact⟨trivial,x,h,rfl,hi,.refl hw,rfl,rfl⟩
theorem Mj{x:Nat->Value}{o:Obj}(hi:Inv S h)
  (E:∀(w:World) (K:Next->World->Prop),yU P S h w.heap.size (callFunc f args) [] w K=(True/\K (.value (x w.heap.size)) { w with heap:=w.heap.push o })) :
  zb P S f args h (fun v h'=>∃b,h b=none/\v=x b/\h'=upd h b o):=
 .Lw [] fun w hw=>by
  rw[E]
  have hn:h w.heap.size=none:=by
   cases e:h w.heap.size with
   | none=>rfl
   | some u=>exact absurd (hw.lt e) (Nat.lt_irrefl _)
  exact⟨trivial,_,upd h w.heap.size o,rfl,hi.upd,Fy hw hi o (d:=w.drawn),w.heap.size,hn,rfl,rfl⟩
theorem KE{a:Addr}{u x:Value}(hi:Inv S h)(hc:ze h a=some u)
  (E:∀(w:World) (K:Next->World->Prop),yU P S h w.heap.size (callFunc f args) [u] w K=(True/\Mode.plain=.plain/\(h a.block≠none\/w.heap.size<=a.block)/\w.cell? a=some u/\K (.value x) w)) :
  zb P S f args h (fun v h'=>v=x/\h'=h):=
 .Lw [u] fun w hw=>by
  rw[E];exact⟨trivial,rfl,.inl (xM hc),jc hw hc,x,h,rfl,hi,.refl hw,rfl,rfl⟩
theorem SQ{t b:Nat}{k:IntKind}{n:Int}{old:Value}{T:TypeId}{x:Value}(hi:Inv S h)(hb:ze h ⟨b,0,none⟩=some (.int k n))(ht:h t=some (.cells #[old] T))(hs:¬S t)
  (E:∀(w:World) (K:Next->World->Prop),yU P S h w.heap.size (callFunc f args) [.int k n] w K =
   (True/\Mode.plain=.plain/\(h b≠none\/w.heap.size<=b)/\w.cell? ⟨b,0,none⟩=some (.int k n) /\
    Mode.plain=.plain/\(h t≠none\/w.heap.size<=t)/\¬S t/\(∃u,w.cell? ⟨t,0,none⟩=some u)/\w.frozen? ⟨t,0,none⟩=false/\(Value.int k n).cells=#[.int k n]/\(∀x,Value.int k n ≠ .tuple x)/\(∀x,Value.int k n ≠ .agg x) /\
    K (.value x) (w.setCell ⟨t,0,none⟩ (.int k n)))) :
  zb P S f args h (fun v h'=>v=x/\h'=upd h t (.cells #[.int k n] T)):=
 .Lw [.int k n] fun w hw=>by
  rw[E]
  have ct:ze h ⟨t,0,none⟩=some old:=by simp[ze,ht]
  have fz:w.frozen? ⟨t,0,none⟩=false:=by simp[World.frozen?,hw t _ ht]
  have e:zw h ⟨t,0,none⟩ (.int k n)=upd h t (.cells #[.int k n] T):=by
   funext x
   by_cases hx:x=t
   ·subst hx;simp[zw,upd,ht]
   ·simp[zw,upd,hx]
  refine⟨trivial,rfl,.inl (xM hb),jc hw hb,rfl,.inl (xM ct),hs,⟨_,jc hw ct⟩,fz,rfl,by simp,by simp,x,upd h t (.cells #[.int k n] T),rfl,hi.upd,?_,rfl,rfl⟩
  rw[<-e]
  exact CL hw (by rw[ht];simp) hs
end
theorem sto1'{S:Shared}{h:Heap}{b:Nat}{u v:Value}{T:TypeId}{K:Heap->Prop}(hb:h b=some (.cells #[u] T))(hS:¬S b)(k:K (upd h b (.cells #[v] T))):zL S ⟨b,0,none⟩ 0 [v] h K:=by
 have e:zw h (Addr.add ⟨b,0,none⟩ 0) v=upd h b (.cells #[v] T):=by
  funext x
  by_cases hx:x=b
  ·subst hx;simp[zw,upd,Addr.add,hb]
  ·simp[zw,upd,Addr.add,hx]
 refine⟨⟨⟨u,by simp[ze,Addr.add,hb]⟩,by simp[yf,Addr.add,hb],by simpa[Addr.add]using hS⟩,?_⟩
 rw[e];exact k
theorem Pt{zs:List Int}{i:Nat}{x:Int}(hi:i<zs.length):xP zs i [x]=zs.set i x:=by
 unfold xP
 rw[List.set_eq_take_append_cons_drop,if_pos hi]
 simp
theorem Mk{S:Shared}{h:Heap}{b i:Nat}{k:IntKind}{zs:List Int}{x:Int}{T:TypeId}{K:Heap->Prop}(hb:h b=some (.cells (ints k zs) T))(hs:¬S b)(hi:i<zs.length)(hK:K (upd h b (.cells (ints k (zs.set i x)) T))) :
  zL S (((some (⟨b,0,none⟩:Addr)).getD default).add (i*1)) 0 [.int k x] h K:=by
 rw[Option.getD_some,zS,Nat.mul_one]
 refine jQ hs [x] 0 h zs hb (by simp;omega) ?_
 rw[Nat.add_zero,Pt hi];exact hK
theorem IK{h:Heap}{b:Nat}{k:IntKind}{zs:List Int}{T:TypeId}{n:Nat}(hb:h b=some (.cells (ints k zs) T))(hn:zs.length=n):Part k h (.slice (some ⟨b,0,none⟩) n n) zs:=
 .inr ⟨b,[],[],[],T,by simp[hn],by simpa using hb⟩
theorem IL{h:Heap}{b:Nat}{k:IntKind}{zs:List Int}{T:TypeId}(hb:h b=some (.cells (ints k zs) T)):zp h k (some ⟨b,0,none⟩) zs:=fun i x hx=>⟨_,rfl,by
 rw[zS];simp[ze,hb,ints,hx]⟩
theorem Part.VX{k:IntKind}{h h0:Heap}{aa:Option Addr}{ca:Nat}{all:List Int}(P:Part k h (.slice aa all.length ca) all)(N:New h0 (.slice aa all.length ca)){n m:Nat}(hn:n<=all.length)(hm:n<=m)(hc:m<=ca) :
  ∃a c,j8 1 aa 0 n m=.slice a (all.take n).length c/\Part k h (.slice a (all.take n).length c) (all.take n)/\New h0 (.slice a (all.take n).length c)/\(0<n->a.isNone=false):=by
 obtain⟨p,e⟩:=P.cut (lo:=0) (hi:=n) (m:=m) (by omega) hn hm hc
 rw[List.drop_zero,Nat.sub_zero]at p
 have hl:(all.take n).length=n:=by rw[List.length_take];omega
 obtain⟨a,c,e2,_,_⟩:=p.ints
 refine⟨a,c,e2,e2▸p,fun b hb=>N b (by rw[<-e,e2];exact hb),fun h0=>?_⟩
 rw[e2]at p
 rcases p with⟨e3,e4⟩ | ⟨b,pr,sp,re,T,e3,_⟩
 ·rw[e4]at hl;simp at hl;omega
 ·simp only[Value.slice.injEq]at e3
  rw[e3.1];rfl
theorem Part.from{k:IntKind}{h h0:Heap}{aa:Option Addr}{ca:Nat}{all:List Int}(P:Part k h (.slice aa all.length ca) all)(N:New h0 (.slice aa all.length ca)){n:Nat}(hn:n<=all.length)(hc:all.length<=ca) :
  ∃a c,j8 1 aa n all.length ca=.slice a (all.drop n).length c/\Part k h (.slice a (all.drop n).length c) (all.drop n)/\New h0 (.slice a (all.drop n).length c):=by
 obtain⟨p,e⟩:=P.cut (lo:=n) (hi:=all.length) (m:=ca) hn (Nat.le_refl _) hc (Nat.le_refl _)
 rw[List.take_of_length_le (by rw[List.length_drop];omega)]at p
 obtain⟨a,c,e2,_,_⟩:=p.ints
 exact⟨a,c,e2,e2▸p,fun b hb=>N b (by rw[<-e,e2];exact hb)⟩
end Go.Eng
end
section
namespace Go.Proofs.YtmnialmphlbmaaaGreatDoor
open Go Go.Eng Go.ChangeShapes Go.WideShapes Go.ChangeAt Go.RowKit
theorem NN(W:World)(a:Addr):ze (jV W) a=W.cell? a:=rfl
section
variable {H : Type} {enc : TypeId × Value -> H} {W : World}
theorem SR{t e:TypeId}{k:IntKind}{fuel:Nat}{v:Value}{y:DataW H×List MemPlace}(ht:Tryz.prog.underlying t=some (.slice e))(he:Tryz.prog.underlying e=some (.int k))(hc:Tryz.prog.cellsOf e=1)
  (h:DataW.trod enc Tryz.prog W 0 (fun _=>true) true fuel t [v]=some y):∃a c xs,v=.slice a xs.length c/\zp (jV W) k a xs/\xs.length<=maxLen/\(∀x∈xs,(Lit.int k x).wf=true):=by
 rcases open_ints ht he hc h with⟨hcs,_⟩ | ⟨a,len,cap,zs,hcs,_,hl,hm,hz,_,ze,hwz⟩
 ·simp only[List.cons.injEq,and_true]at hcs
  subst hcs
  exact⟨none,0,[],rfl,fun i x hx=>by simp at hx,Nat.zero_le _,fun x hx=>by simp at hx⟩
 ·simp only[List.cons.injEq,and_true]at hcs
  simp only[if_true]at hz
  subst hcs
  have hlen:(zs.take len).length=len:=by rw[List.length_take];omega
  refine⟨some a,cap,zs.take len,by rw[hlen],fun i x hx=>⟨a,rfl,?_⟩,by rw[hlen];omega,fun x hx=>hwz x (List.mem_of_mem_take hx)⟩
  have hi:i<len:=by
   have:=(List.getElem?_eq_some_iff.1 hx).1
   omega
  rw[NN,ze i (by omega)]
  rw[List.getElem?_take,if_pos hi]at hx
  rw[List.getD_eq_getElem?_getD,hx]
  rfl
theorem NO{base:Nat}{t e:TypeId}{k:IntKind}{v:Value}{d:DataW H}{p:List MemPlace}(ht:Tryz.prog.underlying t=some (.slice e))(he:Tryz.prog.underlying e=some (.int k))(hc:Tryz.prog.cellsOf e=1)
  (hv:Value.okWide Tryz.prog W .any base t v)(h:DataW.Trod enc Tryz.prog W 0 (fun _=>true) true t v d p):∃a c xs,v=.slice a xs.length c/\zp (jV W) k a xs/\xs.length<=maxLen/\(∀x∈xs,(Lit.int k x).wf=true):=by
 obtain⟨a,l,c,rfl⟩:=okWide_slice ht hv
 obtain⟨fuel,hf⟩:=h
 exact SR ht he hc (by simpa[Value.cells]using hf)
end
theorem UU:ownKnob Tryz.prog.godebug=none:=by kernel_rfl
theorem Hl:laidOutB Tryz.prog=true:=by kernel_rfl
end Go.Proofs.YtmnialmphlbmaaaGreatDoor
end
section
namespace Go.Proofs.YtmnialmphlbmaaaGreatDoor
abbrev AY:Nat:=4
abbrev xF:Nat:=6
abbrev xr:Nat:=9
abbrev yV:Nat:=10
abbrev Dn:Nat:=13
abbrev AL:Nat:=14
abbrev jy:Nat:=15
abbrev qo:Nat:=16
abbrev jC:Nat:=17
abbrev zW:Nat:=19
abbrev xe:Nat:=20
abbrev A7:Nat:=22
abbrev wU:Nat:=23
abbrev Ce:Nat:=24
abbrev wh:Nat:=25
abbrev qp:Nat:=26
abbrev A8:Nat:=28
abbrev xo:Nat:=29
abbrev wV:Nat:=30
abbrev zD:Nat:=31
abbrev kC:Nat:=32
abbrev kD:Nat:=33
abbrev wq:Nat:=34
abbrev qu:Nat:=35
abbrev qw:Nat:=36
abbrev Bo:Nat:=37
abbrev wW:Nat:=38
abbrev A9:Nat:=39
abbrev Bp:Nat:=40
abbrev wv:Nat:=41
abbrev Bq:Nat:=44
abbrev kF:Nat:=45
abbrev xU:Nat:=46
abbrev Dp:Nat:=47
abbrev AA:Nat:=48
abbrev qV:Nat:=49
abbrev wX:Nat:=50
abbrev Br:Nat:=51
abbrev qx:Nat:=52
abbrev zC:Nat:=53
abbrev kG:Nat:=54
abbrev wY:Nat:=55
abbrev kU:Nat:=56
abbrev AB:Nat:=57
abbrev jD:Nat:=58
abbrev jz:Nat:=59
abbrev qy:Nat:=60
abbrev wZ:Nat:=61
abbrev qd:Nat:=62
abbrev Bs:Nat:=63
abbrev yJ:Nat:=65
abbrev j0:Nat:=68
abbrev kY:Nat:=69
abbrev yl:Nat:=70
abbrev yQ:Nat:=71
abbrev xV:Nat:=72
abbrev xQ:Nat:=73
abbrev Dq:Nat:=74
abbrev zT:Nat:=75
abbrev yH:Nat:=76
abbrev kZ:Nat:=77
abbrev jE:Nat:=78
abbrev xE:Nat:=79
abbrev BE:Nat:=80
abbrev qz:Nat:=81
abbrev AD:Nat:=82
abbrev Bt:Nat:=83
abbrev Bu:Nat:=84
abbrev Aa:Nat:=85
abbrev Bv:Nat:=86
abbrev xN:Nat:=91
abbrev xW:Nat:=92
abbrev xC:Nat:=93
abbrev jT:Nat:=94
abbrev xX:Nat:=95
abbrev jf:Nat:=96
abbrev qN:Nat:=97
abbrev jm:Nat:=116
abbrev xg:Nat:=117
abbrev wx:Nat:=118
abbrev xG:Nat:=119
abbrev yx:Nat:=120
abbrev kH:Nat:=121
abbrev wy:Nat:=127
abbrev yK:Nat:=128
abbrev Ab:Nat:=129
abbrev Bw:Nat:=130
abbrev qa:Nat:=131
abbrev yi:Nat:=132
abbrev xY:Nat:=133
abbrev Bx:Nat:=134
abbrev jR:Nat:=135
abbrev qL:Nat:=136
abbrev xR:Nat:=151
abbrev xk:Nat:=159
abbrev xZ:Nat:=161
abbrev xw:Nat:=162
end Go.Proofs.YtmnialmphlbmaaaGreatDoor
end
