import Derived.Conc.CrowdRun
import Derived.Conc.WgGenN3
import Derived.Conc.WgWords
import Derived.Conc.DeferLaws
import Derived.Test.YtopmdepgpabipaaGreatDoorChecked
import Derived.Conc.LeavingOf
import Derived.SevenTiedAt
import Derived.Test.YtopmdepgpabipaaGreatDoorDb3
import Derived.Test.YtopmdepgpabipaaGreatDoorDb4
import Derived.Test.YtopmdepgpabipaaGreatDoorDb5
import Derived.Test.YtopmdepgpabipaaGreatDoorDb6
import Derived.Test.YtopmdepgpabipaaGreatDoorDb7
import Derived.Test.YtopmdepgpabipaaGreatDoorDb8
set_option maxRecDepth 100000
set_option maxHeartbeats 8000000
set_option linter.unusedVariables false
set_option linter.unusedSimpArgs false
set_option linter.unusedSectionVars false
section
namespace Go.Eng
open Go Go.Conc
inductive Rk:Type
 | leaf
 | node (f:World->Rk)
def Rk.lt(a b:Rk):Prop:=∃f w,b=.node f/\a=f w
theorem Rk.wf:WellFounded Rk.lt:=⟨fun a=>by
 induction a with
 | leaf=>exact⟨_,fun b h=>by obtain⟨f,w,h,_⟩:=h;cases h⟩
 | node f ih=>exact⟨_,fun b h=>by obtain⟨g,w,h,rfl⟩:=h;cases h;exact ih w⟩⟩
inductive One {α:Type} (r:α->α->Prop):List α->List α->Prop
 | head {a b:α} {l:List α}:r a b->One r (a::l) (b::l)
 | tail {a:α} {l m:List α}:One r l m->One r (a::l) (a::m)
theorem One.acc{α:Type}{r:α->α->Prop}(hr:WellFounded r):∀l:List α,Acc (One r) l
 | []=>⟨_,fun _ h=>nomatch h⟩
 | b::l=>by
  have key:∀b,Acc r b->∀l,Acc (One r) l->Acc (One r) (b::l):=by
   intro b hb;induction hb with
   | intro b _ ihb=>
    intro l hl;induction hl with
    | intro l hl ihl=>
     refine⟨_,fun m h=>?_⟩;cases h with
     | head h=>exact ihb _ h l ⟨_,hl⟩
     | tail h=>exact ihl _ h
  exact key b (hr.apply b) l (One.acc hr l)
theorem One.set{α:Type}{r:α->α->Prop}:∀ {l:List α} {i:Nat} {x y:α},l[i]? = some x->r y x->One r (l.set i y) l
 | a::l,0,x,y,h,hr=>by simp at h;subst h;exact .head hr
 | a::l,i+1,x,y,h,hr=>.tail (One.set (l:=l) (by simpa using h) hr)
theorem One.wf{α:Type}{r:α->α->Prop}(hr:WellFounded r):WellFounded (One r):=⟨One.acc hr⟩
inductive Runs (P:Program) (Good:Machine->Outcome->World->Trace->Prop):Machine->Trace->Prop
 | fin {m:Machine} {t:Trace} {o:Outcome} {w:World} {ops:Array MemOp}:stepT P m=(.ended o w,ops)->Good m o w (t++ops)->Runs P Good m t
 | step {m m':Machine} {t:Trace} {ops:Array MemOp}:stepT P m=(.next m',ops)->Runs P Good m' (t++ops)->Runs P Good m t
variable {P:Program}
theorem Runs.run{Good:Machine->Outcome->World->Trace->Prop}{m:Machine}{t:Trace}(H:Runs P Good m t) :
  ∃N last o w t',runNT P (N+1) m t=(.ended o w,t')/\runN P N m=.next last/\Go.step P last=.ended o w/\Good last o w t':=by
 induction H with
 | @fin m t o w ops h g=>exact⟨0,m,o,w,_,by simp[runNT,h],rfl,by simp[Go.step,h],g⟩
 | @step m m' t ops h _ ih=>
  obtain⟨N,last,o,w,t',e1,e2,e3,e4⟩:=ih;refine⟨N+1,last,o,w,t',?_,?_,e3,e4⟩
  ·rw[runNT,h];exact e1
  ·rw[runN,Go.step,h];exact e2
def Mo(P:Program)(S:Shared)(m:Bool)(J:World->Prop)(Post:Frame->List Frame->Heap->Prop):Rk->Frame->List Frame->Heap->Prop
 | .leaf,fr,cs,h=>Post fr cs h
 | .node f,fr,cs,h=>∀w,Has w h->J w->∃fr' cs' w' es h',stepG P m (gor fr cs) w=.go (gor fr' cs') w' es/\Kept S h h' w w'/\(∀e∈es,Ai S h w w' e)/\Mo P S m J Post (f w) fr' cs' h'
theorem Safe.zaU{S:Shared}(hS:∀fr cs h Q,¬S.big fr cs h Q){Post:Frame->List Frame->Heap->Prop}{fr:Frame}{cs:List Frame}{h:Heap}(m:Bool)(J:World->Prop)
  (H:Safe P S Post fr cs h):∃r,Mo P S m J Post r fr cs h:=by
 classical
 induction H with
 | done p=>exact⟨.leaf,p⟩
 | step fr' cs' w' es h' hs _ ih=>
  refine⟨.node fun w=>if c:Has w _ then(ih w m c).choose else .leaf,fun w hw _=>?_⟩;obtain⟨h1,h2,h3⟩:=hs w m hw;refine⟨_,_,_,_,_,h1,h2,h3,?_⟩;simp only[dif_pos hw];exact(ih w m hw).choose_spec
 | big h0 f Q e ha hb _ _=>exact absurd hb (hS _ _ _ _)
def Sil(P:Program)(main:Bool)(J:World->Prop)(Stop:Goroutine->World->Prop)(n:Nat)(g:Goroutine):Prop:=
 ∀w,Goes P main (fun _ w₁=>J w₁) Go.ConcR.DC0 Stop n g w
variable {n:Nat}{g:Goroutine}
theorem Wn{main:Bool}{J:World->Prop}{D:World->World->Array Event->Prop}{Stop:Goroutine->World->Prop}{w w':World}
  (H:Goes P main (fun _ w₁=>J w₁) D Stop n g w):Goes P main (fun _ w₁=>J w₁) D Stop n g w':=by
 cases n <;> exact H
variable {w:World}
theorem Sil.of{main:Bool}{J:World->Prop}{Stop:Goroutine->World->Prop}
  (H:Goes P main (fun _ w₁=>J w₁) Go.ConcR.DC0 Stop n g w):Sil P main J Stop n g:=fun _=>Wn H
theorem Sil.cases{main:Bool}{J:World->Prop}{Stop:Goroutine->World->Prop}(H:Sil P main J Stop n g) :
  (∀w,J w->Stop g w)\/∃k,n=k+1/\g.status=.running/\∀w,J w->∃g',stepG P main g w=.go g' w #[]/\Sil P main J Stop k g':=by
 cases n with
 | zero=>exact .inl fun w hw=>H w w hw
 | succ n=>
  rcases H default with h | ⟨hs,h⟩
  ·exact .inl h
  ·refine .inr ⟨n,rfl,hs,fun w hw=>?_⟩;have:=h w hw;revert this;cases stepG P main g w <;> simp only[GStep.goes,false_implies]
   rintro⟨⟨rfl,rfl⟩,h2⟩;exact⟨_,rfl,Sil.of h2⟩
end Go.Eng
namespace Go.Eng
open Go Go.Conc
open Go.ConcR (g_of_ofEvents)
structure WS where
 stage:Nat
 rk:Rk
 fuel:Nat
 heap:Heap
structure Com(w0:World)(S:Shared)(N0:Nat)(h:Heap)(T:List WS)(w:World)(t:Trace):Prop where
 env:w.os=w0.os/\w.tape=w0.tape/\w.output=w0.output
 has:Has w h
 inv:Inv S h
 hasW:∀(i:Nat) (x:WS),T[i]? = some x->Has w x.heap
 apart:∀(i:Nat) (x:WS),T[i]? = some x->∀b,¬S b->x.heap b≠none->h b=none
 apart2:∀(i j:Nat) (x y:WS),T[i]? = some x->T[j]? = some y->i≠j->∀b,¬S b->x.heap b≠none->y.heap b=none
 nr:∀said,¬Race said t
 gsb:∀(i:Nat) (op:MemOp),t[i]? = some op->op.g<=T.length
 lo:∀(i:Nat) (a:Touch),touchAt t i=some a->∃ad,a.loc=.cell ad/\ad.block<w.heap.size
 norel:∀(i:Nat) (a:Addr),t.act? i≠some (.mark (.release a))
 kn:∀(i:Nat) (a:Touch) (ad:Addr),touchAt t i=some a->a.loc=.cell ad->h ad.block≠none->Knows t 0 i\/(S ad.block/\a.write=false/\a.kind=.plain/\∃k,N0<k/\t.g? i=some k)
 knW:∀(k:Nat) (x:WS),T[k]? = some x->∀(i:Nat) (a:Touch) (ad:Addr),touchAt t i=some a->a.loc=.cell ad->x.heap ad.block≠none->(¬S ad.block\/a.write=true)->Knows t (k+1) i
 ho:∀(i k:Nat),t.g? i=some k->k≠0->k<=N0->t.counts i->Knows t 0 i
variable {b g i k:Nat}{fn:FuncId}{pos:String}{hA hA':Heap}
section
variable {S:Shared}{N0:Nat}{h h' : Heap}{T T' : List WS}{w0 w w' : World}{t u:Trace}{es:Array Event}
theorem yu{a:Touch}(ha:touchAt (t++u) i=some a):(i<t.size/\touchAt t i=some a)\/∃op∈u,op.act.touch? = some a/\(t++u)[i]? = some op:=by
 obtain⟨op,ho,hoa⟩:=touch_of ha;rcases getElem?_append_cases ho with⟨hlt,h1⟩ | ⟨_,hu⟩
 ·exact .inl ⟨hlt,by rw[touchAt_of h1];exact hoa⟩
 ·exact .inr ⟨op,hu,hoa,ho⟩
theorem g?_cases(hg:(t++u).g? i=some k):(i<t.size/\t.g? i=some k)\/∃op∈u,op.g=k/\(t++u)[i]? = some op:=by
 obtain⟨op,ho,hoa⟩:=Option.map_eq_some_iff.1 hg;rcases getElem?_append_cases ho with⟨hlt,h1⟩ | ⟨_,hu⟩
 ·exact .inl ⟨hlt,by simp[Trace.g?,h1,hoa]⟩
 ·exact .inr ⟨op,hu,hoa,ho⟩
theorem yK{op:MemOp}(hop:op∈MemOp.ofEvents g fn pos es):∃e∈es,op={ g,fn,pos,act:=.ofEvent e }:=by
 unfold MemOp.ofEvents at hop;split at hop
 ·simp at hop
 ·obtain⟨e,he,rfl⟩:=Array.mem_map.1 hop;exact⟨e,he,rfl⟩
theorem jD{op:MemOp}{b:Touch}(hes:∀e∈es,Ai S h w w' e)(hop:op∈MemOp.ofEvents g fn pos es)(hb:op.act.touch? = some b) :
  ∃ad,b.loc=.cell ad/\b.kind=.plain/\(h ad.block≠none\/w.heap.size<=ad.block)/\(b.write=true->¬S ad.block)/\ad.block<w'.heap.size:=by
 obtain⟨e,he,rfl⟩:=yK hop;rcases hes e he with⟨a,h1,h2,h3,h4⟩ | ⟨m,hm,rfl⟩
 ·obtain⟨l,wr,sy⟩:=e;simp only at h1 h2 h4;subst h1 h2;have:MemAct.ofEvent ⟨.cell a,wr,false⟩=.access ⟨.cell a,wr,false⟩:=by cases wr <;> rfl
  simp only[this,MemAct.touch?,Option.some.injEq]at hb;subst hb;exact⟨a,rfl,rfl,h3,h4⟩
 ·cases m <;> simp[Quiet,MemAct.ofEvent,MemAct.touch?]at hb hm
theorem KV{op:MemOp}(hes:∀e∈es,Ai S h w w' e)(hop:op∈MemOp.ofEvents g fn pos es)(a:Addr):op.act ≠ .mark (.release a):=by
 obtain⟨e,he,rfl⟩:=yK hop;rcases hes e he with⟨a,h1,h2,h3,h4⟩ | ⟨m,hm,rfl⟩
 ·obtain⟨l,wr,sy⟩:=e;simp only at h1 h2;subst h1 h2;have:MemAct.ofEvent ⟨.cell a,wr,false⟩=.access ⟨.cell a,wr,false⟩:=by cases wr <;> rfl
  simp[this]
 ·cases m <;> simp[Quiet,MemAct.ofEvent]at hm ⊢
theorem UD(K:Kept S hA hA' w w')(H:Has w hA)(hb:b<w.heap.size)(hS:hA b=none\/S b):w'.heap[b]? = w.heap[b]? := by
 cases hh:hA b with
 | none=>exact(K.old b hb hh).1
 | some o=>
  have hs:S b:=hS.resolve_left (by rw[hh];simp);have h1:=K.ro b hs;rw[hh]at h1;rw[K.has b o h1,H b o hh]
theorem Js{hA hA' hB:Heap}(K:Kept S hA hA' w w')(H:Has w hA)(HB:Has w hB)(hap:∀b,¬S b->hB b≠none->hA b=none):Has w' hB:=fun b o hb=>by
 have hlt:=HB.lt hb;rw[UD K H hlt (by
  by_cases hs:S b
  ·exact .inr hs
  ·exact .inl (hap b hs (by rw[hb];simp)))]
 exact HB b o hb
theorem FO(K:Kept S hA hA' w w')(hb:b<w.heap.size)(h':hA' b≠none):hA b≠none:=fun hn=>h' (K.old b hb hn).2
theorem jh(h:Knows t g i):Knows (t++u) g i:=Knows.app u h
theorem Ej(h:∀(i:Nat) (a:Addr),t.act? i≠some (.mark (.release a)))(hu:∀op∈u,∀a,op.act ≠ .mark (.release a)):∀(i:Nat) (a:Addr),(t++u).act? i≠some (.mark (.release a)):=by
 intro i a e;obtain⟨op,ho,hoa⟩:=Option.map_eq_some_iff.1 e;rcases getElem?_append_cases ho with⟨_,h1⟩ | ⟨_,h1⟩
 ·exact h i a (by simp[Trace.act?,h1,hoa])
 ·exact hu op h1 a hoa
theorem Ij{n:Nat}(h:∀(i:Nat) (op:MemOp),t[i]? = some op->op.g<=n)(hu:∀op∈u,op.g<=n):∀(i:Nat) (op:MemOp),(t++u)[i]? = some op->op.g<=n:=by
 intro i op ho;rcases getElem?_append_cases ho with⟨_,h1⟩ | ⟨_,h1⟩
 ·exact h i op h1
 ·exact hu op h1
theorem KW{N0:Nat}(h:∀(i k:Nat),t.g? i=some k->k≠0->k<=N0->t.counts i->Knows t 0 i)(hu:∀op∈u,op.g=0\/N0<op.g\/op.act.touch? = none) :
  ∀(i k:Nat),(t++u).g? i=some k->k≠0->k<=N0->(t++u).counts i->Knows (t++u) 0 i:=by
 intro i k hg hk hN hc;rcases g?_cases hg with⟨hlt,h1⟩ | ⟨op,h1,rfl,h2⟩
 ·exact jh (h i k h1 hk hN ((counts_old hlt).1 hc))
 ·rcases hu op h1 with h3 | h3 | h3
  ·exact absurd h3 hk
  ·omega
  ·obtain⟨x,hx,_⟩:=hc;simp[Trace.act?,h2,h3]at hx
theorem Com.main(C:Com w0 S N0 h T w t)(K:Kept S h h' w w')(hes:∀e∈es,Ai S h w w' e)(fn:FuncId)(pos:String):Com w0 S N0 h' T w' (t++MemOp.ofEvents 0 fn pos es):=by
 have hg:∀op∈MemOp.ofEvents 0 fn pos es,op.g=0:=g_of_ofEvents;have own:∀ {i:Nat} {op:MemOp},op∈MemOp.ofEvents 0 fn pos es->(t++MemOp.ofEvents 0 fn pos es)[i]? = some op->Knows (t++MemOp.ofEvents 0 fn pos es) 0 i:=fun h1 h2=>by
  have:=knows_own h2;rwa[hg _ h1]at this
 refine⟨⟨K.os.trans C.env.1,K.tape.trans C.env.2.1,K.output.trans C.env.2.2⟩,K.has,?_,?_,?_,C.apart2,?_,?_,?_,?_,?_,?_,?_⟩
 ·intro b hb hn;rw[K.ro b hb]at hn;exact C.inv b hb hn
 ·exact fun i x hx=>Js K C.has (C.hasW i x hx) (C.apart i x hx)
 ·intro i x hx b hS hb;have hlt:b<w.heap.size:=by
   cases hh:x.heap b with
   | none=>exact absurd hh hb
   | some o=>exact(C.hasW i x hx).lt hh
  exact(K.old b hlt (C.apart i x hx b hS hb)).2
 ·intro said;refine noRace_append (C.nr said) hg fun i a ha op hop b hb hc=>?_
  obtain⟨ad,h1,h2,h3,h4,_⟩:=jD hes hop hb;have hal:a.loc=.cell ad:=hc.1.trans h1;obtain⟨ad2,e2,hlt⟩:=C.lo i a ha;rw[hal]at e2;cases e2
  rcases C.kn i a ad ha hal (h3.resolve_right (by omega))with h5 | ⟨h5,h6,_⟩
  ·exact h5
  ·rcases hc.2.2.1 with h7 | h7
   ·rw[h6]at h7;cases h7
   ·exact absurd h5 (h4 h7)
 ·exact Ij C.gsb fun op hop=>by rw[hg op hop];omega
 ·intro i a ha;rcases yu ha with⟨_,h1⟩ | ⟨op,h1,h2,_⟩
  ·obtain⟨ad,e,hlt⟩:=C.lo i a h1;exact⟨ad,e,Nat.lt_of_lt_of_le hlt K.size⟩
  ·obtain⟨ad,e1,_,_,_,e5⟩:=jD hes h1 h2;exact⟨ad,e1,e5⟩
 ·exact Ej C.norel fun op hop a=>KV hes hop a
 ·intro i a ad ha hl hh;rcases yu ha with⟨hlt,h1⟩ | ⟨op,h1,h2,h3⟩
  ·obtain⟨ad2,e2,hlt2⟩:=C.lo i a h1;rw[hl]at e2;cases e2
   rcases C.kn i a ad h1 hl (FO K hlt2 hh)with h4 | ⟨h4,h5,h6,k,h7,h8⟩
   ·exact .inl (jh h4)
   ·exact .inr ⟨h4,h5,h6,k,h7,by rw[g?_old hlt];exact h8⟩
  ·exact .inl (own h1 h3)
 ·intro k x hx i a ad ha hl hh hc;rcases yu ha with⟨hlt,h1⟩ | ⟨op,h1,h2,h3⟩
  ·exact jh (C.knW k x hx i a ad h1 hl hh hc)
  ·obtain⟨ad2,e1,_,e3,e4,_⟩:=jD hes h1 h2;rw[hl]at e1;cases e1
   have hlt:ad.block<w.heap.size:=by
    cases hx2:x.heap ad.block with
    | none=>exact absurd hx2 hh
    | some o=>exact(C.hasW k x hx).lt hx2
   have hne:h ad.block≠none:=e3.resolve_right (by omega);rcases hc with hc | hc
   ·exact absurd (C.apart k x hx _ hc hh) hne
   ·exact absurd (C.apart k x hx _ (e4 hc) hh) hne
 ·exact KW C.ho fun op hop=>.inl (hg op hop)
theorem yH{α:Type}{l:List α}{i j:Nat}{x y:α}(h:(l.set i x)[j]? = some y):(i=j/\y=x)\/(i≠j/\l[j]? = some y):=by
 rw[List.getElem?_set]at h;by_cases e:i=j
 ·subst e;simp only[if_true]at h;split at h
  ·exact .inl ⟨rfl,(Option.some.inj h).symm⟩
  ·cases h
 ·rw[if_neg e]at h;exact .inr ⟨e,h⟩
theorem KX{g:Heap}(H:Has w g)(hb:g b≠none):b<w.heap.size:=by
 cases hh:g b with
 | none=>exact absurd hh hb
 | some o=>exact H.lt hh
theorem Com.worker(C:Com w0 S N0 h T w t){x:WS}(hx:T[k]? = some x)(hN:N0<=k)(K:Kept S x.heap h' w w')(hes:∀e∈es,Ai S x.heap w w' e)(fn:FuncId)(pos:String){y:WS}(hy:y.heap=h') :
  Com w0 S N0 h (T.set k y) w' (t++MemOp.ofEvents (k+1) fn pos es):=by
 have hg:∀op∈MemOp.ofEvents (k+1) fn pos es,op.g=k+1:=g_of_ofEvents;have hW:=C.hasW k x hx;have hkl:k<T.length:=(List.getElem?_eq_some_iff.1 hx).1;have own:∀ {i:Nat} {op:MemOp},op∈MemOp.ofEvents (k+1) fn pos es->(t++MemOp.ofEvents (k+1) fn pos es)[i]? = some op->Knows (t++MemOp.ofEvents (k+1) fn pos es) (k+1) i:=fun h1 h2=>by
  have:=knows_own h2;rwa[hg _ h1]at this
 have apM:∀b,¬S b->h b≠none->x.heap b=none:=fun b hS hb=>by
  cases hh:x.heap b with
  | none=>rfl
  | some o=>exact absurd (C.apart k x hx b hS (by rw[hh];simp)) hb
 have ap2:∀(j:Nat) (z:WS),T[j]? = some z->k≠j->∀b,¬S b->z.heap b≠none->x.heap b=none:=fun j z hz hj b hS hb=>C.apart2 j k z x hz hx (Ne.symm hj) b hS hb
 refine⟨⟨K.os.trans C.env.1,K.tape.trans C.env.2.1,K.output.trans C.env.2.2⟩,Js K hW C.has apM,C.inv,?_,?_,?_,?_,?_,?_,?_,?_,?_,?_⟩
 ·intro j z hz;rcases yH hz with⟨rfl,rfl⟩ | ⟨hj,hz⟩
  ·rw[hy];exact K.has
  ·exact Js K hW (C.hasW j z hz) (ap2 j z hz hj)
 ·intro j z hz b hS hb;rcases yH hz with⟨rfl,rfl⟩ | ⟨hj,hz⟩
  ·rw[hy]at hb;cases hh:h b with
   | none=>rfl
   | some o=>
    have hlt:=KX C.has (b:=b) (by rw[hh];simp);exact absurd (apM b hS (by rw[hh];simp)) (FO K hlt hb)
  ·exact C.apart j z hz b hS hb
 ·intro i j z z2 hz hz2 hij b hS hb;rcases yH hz with⟨rfl,rfl⟩ | ⟨hj,hz'⟩
  ·rcases yH hz2 with⟨rfl,_⟩ | ⟨hj2,hz2⟩
   ·exact absurd rfl hij
   ·rw[hy]at hb;cases hh:z2.heap b with
    | none=>rfl
    | some o=>
     have hlt:=KX (C.hasW j z2 hz2) (b:=b) (by rw[hh];simp);exact absurd (ap2 j z2 hz2 hij b hS (by rw[hh];simp)) (FO K hlt hb)
  ·rcases yH hz2 with⟨rfl,rfl⟩ | ⟨hj2,hz2⟩
   ·rw[hy];have hlt:=KX (C.hasW i z hz') (b:=b) hb;exact(K.old b hlt (ap2 i z hz' hj b hS hb)).2
   ·exact C.apart2 i j z z2 hz' hz2 hij b hS hb
 ·intro said;refine noRace_append (C.nr said) hg fun i a ha op hop b hb hc=>?_
  obtain⟨ad,h1,h2,h3,h4,_⟩:=jD hes hop hb;have hal:a.loc=.cell ad:=hc.1.trans h1;obtain⟨ad2,e2,hlt⟩:=C.lo i a ha;rw[hal]at e2;cases e2
  refine C.knW k x hx i a ad ha hal (h3.resolve_right (by omega)) ?_;rcases hc.2.2.1 with h7 | h7
  ·exact .inr h7
  ·exact .inl (h4 h7)
 ·rw[List.length_set];exact Ij C.gsb fun op hop=>by rw[hg op hop];omega
 ·intro i a ha;rcases yu ha with⟨_,h1⟩ | ⟨op,h1,h2,_⟩
  ·obtain⟨ad,e,hlt⟩:=C.lo i a h1;exact⟨ad,e,Nat.lt_of_lt_of_le hlt K.size⟩
  ·obtain⟨ad,e1,_,_,_,e5⟩:=jD hes h1 h2;exact⟨ad,e1,e5⟩
 ·exact Ej C.norel fun op hop a=>KV hes hop a
 ·intro i a ad ha hl hh;rcases yu ha with⟨hlt,h1⟩ | ⟨op,h1,h2,h3⟩
  ·rcases C.kn i a ad h1 hl hh with h4 | ⟨h4,h5,h6,q,h7,h8⟩
   ·exact .inl (jh h4)
   ·exact .inr ⟨h4,h5,h6,q,h7,by rw[g?_old hlt];exact h8⟩
  ·obtain⟨ad2,e1,e2,e3,e4,_⟩:=jD hes h1 h2;rw[hl]at e1;cases e1
   have hlt:=KX C.has hh;have hne:=e3.resolve_right (by omega);have hS:S ad.block:=by
    refine Classical.byContradiction fun hS=>?_
    exact hne (apM _ hS hh)
   refine .inr ⟨hS,?_,e2,k+1,by omega,by simp[Trace.g?,h3,hg op h1]⟩;cases hw:a.write with
   | false=>rfl
   | true=>exact absurd hS (e4 hw)
 ·intro j z hz i a ad ha hl hh hc;rcases yu ha with⟨hlt,h1⟩ | ⟨op,h1,h2,h3⟩
  ·rcases yH hz with⟨rfl,rfl⟩ | ⟨hj,hz⟩
   ·rw[hy]at hh;obtain⟨ad2,e2,hlt2⟩:=C.lo i a h1;rw[hl]at e2;cases e2
    exact jh (C.knW k x hx i a ad h1 hl (FO K hlt2 hh) hc)
   ·exact jh (C.knW j z hz i a ad h1 hl hh hc)
  ·rcases yH hz with⟨rfl,rfl⟩ | ⟨hj,hz⟩
   ·exact own h1 h3
   ·obtain⟨ad2,e1,_,e3,e4,_⟩:=jD hes h1 h2;rw[hl]at e1;cases e1
    have hlt:=KX (C.hasW j z hz) hh;have hne:=e3.resolve_right (by omega);rcases hc with hc | hc
    ·exact absurd (ap2 j z hz hj _ hc hh) hne
    ·exact absurd (ap2 j z hz hj _ (e4 hc) hh) hne
 ·exact KW C.ho fun op hop=>.inr (.inl (by rw[hg op hop];omega))
theorem Com.other(C:Com w0 S N0 h T w t)(hgl:g<=T.length)(hu:∀op∈u,op.g=g)(hT:T'.length=T.length)(hTs:∀(i:Nat) (y:WS),T'[i]? = some y->∃x,T[i]? = some x/\∀b,y.heap b≠none->y.heap b=x.heap b)
  (he:w'.os=w.os/\w'.tape=w.tape/\w'.output=w.output)(hs:w'.heap.size=w.heap.size)(hh:∀b,(h b≠none\/∃(i:Nat) (x:WS),T[i]? = some x/\x.heap b≠none)->w'.heap[b]? = w.heap[b]?)
  (ht:∀op∈u,∀b,op.act.touch? = some b->∃ad,b.loc=.cell ad/\ad.block<w.heap.size/\h ad.block=none/\(∀(i:Nat) (x:WS),T[i]? = some x->x.heap ad.block=none)/\∀(said:Bool) (i:Nat) (a:Touch),touchAt t i=some a->a.conflicts said b->Knows t g i)
  (hr:∀op∈u,∀a,op.act ≠ .mark (.release a))(hN:g=0\/N0<g\/∀op∈u,op.act.touch? = none):Com w0 S N0 h T' w' (t++u):=by
 have sub:∀ {i:Nat} {y:WS},T'[i]? = some y->∃x,T[i]? = some x/\∀b,y.heap b≠none->x.heap b≠none:=fun hy=>by
  obtain⟨x,hx,hb⟩:=hTs _ _ hy;exact⟨x,hx,fun b h=>by rw[<-hb b h];exact h⟩
 refine⟨⟨he.1.trans C.env.1,he.2.1.trans C.env.2.1,he.2.2.trans C.env.2.2⟩,?_,C.inv,?_,?_,?_,?_,?_,?_,Ej C.norel hr,?_,?_,?_⟩
 ·intro b o hb;rw[hh b (.inl (by rw[hb];simp))];exact C.has b o hb
 ·intro i y hy b o hb;obtain⟨x,hx,hb2⟩:=hTs i y hy;have e:=hb2 b (by rw[hb];simp);rw[hb]at e;rw[hh b (.inr ⟨i,x,hx,by rw[<-e];simp⟩)];exact C.hasW i x hx b o e.symm
 ·intro i y hy b hS hb;obtain⟨x,hx,hb2⟩:=sub hy;exact C.apart i x hx b hS (hb2 b hb)
 ·intro i j y z hy hz hij b hS hb;obtain⟨x,hx,hb2⟩:=sub hy;obtain⟨x2,hx2,hb3⟩:=sub hz;cases hzb:z.heap b with
  | none=>rfl
  | some o=>exact absurd (C.apart2 i j x x2 hx hx2 hij b hS (hb2 b hb)) (hb3 b (by rw[hzb];simp))
 ·intro said;refine noRace_append (C.nr said) hu fun i a ha op hop b hb hc=>?_
  obtain⟨ad,_,_,_,_,h5⟩:=ht op hop b hb;exact h5 said i a ha hc
 ·rw[hT];exact Ij C.gsb fun op hop=>by rw[hu op hop];exact hgl
 ·intro i a ha;rcases yu ha with⟨_,h1⟩ | ⟨op,h1,h2,_⟩
  ·obtain⟨ad,e,hlt⟩:=C.lo i a h1;exact⟨ad,e,by omega⟩
  ·obtain⟨ad,e1,e2,_⟩:=ht op h1 a h2;exact⟨ad,e1,by omega⟩
 ·intro i a ad ha hl hb;rcases yu ha with⟨hlt,h1⟩ | ⟨op,h1,h2,h3⟩
  ·rcases C.kn i a ad h1 hl hb with h4 | ⟨h4,h5,h6,q,h7,h8⟩
   ·exact .inl (jh h4)
   ·exact .inr ⟨h4,h5,h6,q,h7,by rw[g?_old hlt];exact h8⟩
  ·obtain⟨ad2,e1,_,e3,_⟩:=ht op h1 a h2;rw[hl]at e1;cases e1
   exact absurd e3 hb
 ·intro k y hy i a ad ha hl hb hc;obtain⟨x,hx,hb2⟩:=sub hy;rcases yu ha with⟨hlt,h1⟩ | ⟨op,h1,h2,h3⟩
  ·exact jh (C.knW k x hx i a ad h1 hl (hb2 _ hb) hc)
  ·obtain⟨ad2,e1,_,_,e4,_⟩:=ht op h1 a h2;rw[hl]at e1;cases e1
   exact absurd (e4 k x hx) (hb2 _ hb)
 ·exact KW C.ho fun op hop=>by
   rcases hN with h | h | h
   ·exact .inl (by rw[hu op hop,h])
   ·exact .inr (.inl (by rw[hu op hop];exact h))
   ·exact .inr (.inr (h op hop))
end
end Go.Eng
namespace Go.Eng
open Go Go.Conc Go.ConcN
open Go.ConcR (KK wgBlock WgAt stA smA rd wr mk g_of_ofEvents Bk DC0)
structure Ph where
 ty:TypeId
 Wg:Nat
 C:Nat
 ety:TypeId
 n:Nat
 S:Shared
 val:Nat->Value
def Ph.pay(Φ:Ph)(w:World):Prop:=∃cs:Array Value,w.heap[Φ.C]? = some (.cells cs Φ.ety)/\cs.size=Φ.n
def Ph.J(Φ:Ph)(w:World):Prop:=WgLive Φ.ty Φ.Wg w/\Φ.pay w
section
variable (P:Program)(Φ:Ph)
def AtD4(g:Goroutine)(w:World):Prop:=
 g.status=.running/\mayWake P g=true/\(WgAt Φ.ty Φ.Wg w 0 0->∃g',stepG P false g w=.go g' (w.setCell (smA Φ.Wg) (.int .u32 1)) (semEvents (smA Φ.Wg))/\∃q,QuitsD P q 1 g')
def AtD3(g:Goroutine)(w:World):Prop:=
 g.status=.running/\(WgAt Φ.ty Φ.Wg w 1 0->∃g',stepG P false g w=.go g' (w.setCell (stA Φ.Wg) (.int .u64 0)) #[wr (stA Φ.Wg)]/\∃m,Sil P false Φ.J (AtD4 P Φ) m g')
def AtD2(g:Goroutine)(w:World):Prop:=
 g.status=.running/\(WgAt Φ.ty Φ.Wg w 1 0->∃g',stepG P false g w=.go g' w #[rd (stA Φ.Wg)]/\∃m,Sil P false Φ.J (AtD3 P Φ) m g')
def AtD1(g:Goroutine)(w:World):Prop:=
 g.status=.running/\∀v wt:Nat,wt<=1->v<2147483647->WgAt Φ.ty Φ.Wg w ((v+1)*KK+wt) 0 ->
  ∃g',stepG P false g w=.go g' (w.setCell (stA Φ.Wg) (.int .u64 (v*KK+wt))) #[rd (stA Φ.Wg),wr (stA Φ.Wg)] /\
   ((v=0/\wt=1)->∃m,Sil P false Φ.J (AtD2 P Φ) m g')/\(¬(v=0/\wt=1)->∃q,QuitsD P q 1 g')
def AtK1(g:Goroutine)(w:World):Prop:=
 g.status=.running/\∃g',stepG P false g w=.go g' w #[mk .disable]/\∃m,Sil P false Φ.J (AtD1 P Φ) m g'
def AtR0(g:Goroutine)(w:World):Prop:=
 g.status=.running/\∃g',stepG P false g w=.go g' w #[mk (.releaseMerge (stA Φ.Wg))]/\∃m,Sil P false Φ.J (AtK1 P Φ) m g'
def Ik(i:Nat)(fr:Frame)(cs:List Frame)(h:Heap):Prop:=
 ∀w,Has w h->Φ.J w->∃g',stepG P false (gor fr cs) w=.go g' (w.setCell ⟨Φ.C,i,none⟩ (Φ.val i)) #[⟨.cell ⟨Φ.C,i,none⟩,true,false⟩]/\∃m,Sil P false Φ.J (AtR0 P Φ) m g'
def Works(i:Nat)(fr:Frame)(cs:List Frame)(h:Heap):Prop:=∃r,Mo P Φ.S false Φ.J (Ik P Φ i) r fr cs h
def Py(Nx:Frame->List Frame->Prop)(g:Goroutine)(_:World):Prop:=∃fr cs,g=gor fr cs/\Nx fr cs
def H7(Nx:Frame->List Frame->Prop)(g:Goroutine)(w:World):Prop:=
 g.status=.running/\∃g',stepG P true g w=.go g' w #[mk .enable]/\∃m,Sil P true Φ.J (Py Nx) m g'
def Pz(Nx:Frame->List Frame->Prop)(g:Goroutine)(w:World):Prop:=
 g.status=.running/\∃g',stepG P true g w=.go g' w #[mk (.read (smA Φ.Wg))]/\∃m,Sil P true Φ.J (H7 P Φ Nx) m g'
def AtA1(Nx:Frame->List Frame->Prop)(g:Goroutine)(w:World):Prop:=
 g.status=.running/\∀v:Nat,v<2147483647->WgAt Φ.ty Φ.Wg w (v*KK) 0 ->
  ∃g',stepG P true g w=.go g' (w.setCell (stA Φ.Wg) (.int .u64 ((v+1)*KK))) #[rd (stA Φ.Wg),wr (stA Φ.Wg)] /\
   (v=0->∃m,Sil P true Φ.J (Pz P Φ Nx) m g')/\(v≠0->∃m,Sil P true Φ.J (H7 P Φ Nx) m g')
def Mp(Nx:Frame->List Frame->Prop)(g:Goroutine)(w:World):Prop:=
 g.status=.running/\∃g',stepG P true g w=.go g' w #[mk .disable]/\∃m,Sil P true Φ.J (AtA1 P Φ Nx) m g'
def Bi(Nx:Frame->List Frame->Prop)(fr:Frame)(cs:List Frame):Prop:=∃m,Sil P true Φ.J (Mp P Φ Nx) m (gor fr cs)
def Jt(Nx:Frame->List Frame->Prop)(g:Goroutine)(w:World):Prop:=
 g.status=.running/\∃fr cs,stepG P true g w=.go (gor fr cs) w #[mk (.acquire (stA Φ.Wg))]/\Nx fr cs
def H9(Nx:Frame->List Frame->Prop)(g:Goroutine)(w:World):Prop:=
 g.status=.running/\∃g',stepG P true g w=.go g' w #[mk .enable]/\∃m,Sil P true Φ.J (Jt P Φ Nx) m g'
def AtW4(Nx:Frame->List Frame->Prop)(g:Goroutine)(w:World):Prop:=
 g.status=.running/\(WgAt Φ.ty Φ.Wg w 0 0->∃g',stepG P true g w=.go g' w #[rd (stA Φ.Wg)]/\∃m,Sil P true Φ.J (H9 P Φ Nx) m g')
def AtW3(Nx:Frame->List Frame->Prop)(g:Goroutine)(w:World):Prop:=
 g.status=.running/\g.offers=none /\
  ((∃st,WgAt Φ.ty Φ.Wg w st 0)->stepG P true g w=.go { g with status:=.blocked } w #[]) /\
  (WgAt Φ.ty Φ.Wg w 0 1->∃g',stepG P true g w=.go g' (w.setCell (smA Φ.Wg) (.int .u32 0)) (semEvents (smA Φ.Wg))/\∃m,Sil P true Φ.J (AtW4 P Φ Nx) m g')
def P7(Nx:Frame->List Frame->Prop)(g:Goroutine)(w:World):Prop:=
 g.status=.running/\∃g',stepG P true g w=.go g' w #[mk (.write (smA Φ.Wg))]/\∃m,Sil P true Φ.J (AtW3 P Φ Nx) m g'
def AtW2(Nx:Frame->List Frame->Prop)(Anch:Goroutine->Prop)(vs:Nat)(g:Goroutine)(w:World):Prop:=
 g.status=.running/\∀v:Nat,v<2147483648->WgAt Φ.ty Φ.Wg w (v*KK) 0 ->
  (v=vs->∃g',stepG P true g w=.go g' (w.setCell (stA Φ.Wg) (.int .u64 (v*KK+1))) #[rd (stA Φ.Wg),wr (stA Φ.Wg)]/\∃m,Sil P true Φ.J (P7 P Φ Nx) m g') /\
  (v≠vs->∃g',stepG P true g w=.go g' w #[rd (stA Φ.Wg)]/\∃m,Sil P true Φ.J (fun g _=>Anch g) m g')
def AtW1(Nx:Frame->List Frame->Prop)(Anch:Goroutine->Prop)(g:Goroutine)(w:World):Prop:=
 g.status=.running/\∀v:Nat,v<2147483648->WgAt Φ.ty Φ.Wg w (v*KK) 0->∃g',stepG P true g w=.go g' w #[rd (stA Φ.Wg)] /\
  (v=0->∃m,Sil P true Φ.J (H9 P Φ Nx) m g')/\(v≠0->∃m,Sil P true Φ.J (AtW2 P Φ Nx Anch v) m g')
def zaV(Anch:Goroutine->Prop)(g:Goroutine)(w:World):Prop:=
 g.status=.running/\∃g',stepG P true g w=.go g' w #[mk .disable]/\∃m,Sil P true Φ.J (fun g _=>Anch g) m g'
def kV(Nx:Frame->List Frame->Prop)(fr:Frame)(cs:List Frame):Prop:=
 ∃Anch:Goroutine->Prop,(∀g,Anch g->∃m,Sil P true Φ.J (AtW1 P Φ Nx Anch) m g)/\∃m,Sil P true Φ.J (zaV P Φ Anch) m (gor fr cs)
def CP(i:Nat)(Nx:Frame->List Frame->Heap->Prop)(fr:Frame)(cs:List Frame)(h:Heap):Prop:=
 ∃h1 hc:Heap,Sub h1 h/\Sub hc h/\(∀b,¬Φ.S b->hc b≠none->h1 b=none)/\(∀b,Φ.S b->h1 b=h b) /\
  ∀w,Has w h->Φ.J w->∃fr' cs' frc csc,stepG P true (gor fr cs) w=.spawn (gor fr' cs') (gor frc csc) w #[]/\Works P Φ i frc csc hc/\Nx fr' cs' h1
def Sp(Q:Frame->List Frame->Heap->Prop):Nat->Frame->List Frame->Heap->Prop
 | 0=>fun fr cs h=>Safe P Φ.S (fun fr cs h=>kV P Φ (fun fr' cs'=>Q fr' cs' h) fr cs) fr cs h
 | r+1=>fun fr cs h=>Safe P Φ.S (fun fr cs h=>Bi P Φ (fun fr' cs'=>Safe P Φ.S (fun fr cs h=>CP P Φ (Φ.n-(r+1)) (Sp Q r) fr cs h) fr' cs' h) fr cs) fr cs h
end
def emp:Heap:=fun _=>none
inductive WSit (P:Program) (Φ:Ph) (i:Nat):WS->Nat->Goroutine->Prop
 | put {fr:Frame} {cs:List Frame} {rk:Rk} {f:Nat} {h:Heap}:Mo P Φ.S false Φ.J (Ik P Φ i) rk fr cs h->WSit P Φ i ⟨8,rk,f,h⟩ 0 (gor fr cs)
 | rel {g:Goroutine} {rk:Rk} {m:Nat}:Sil P false Φ.J (AtR0 P Φ) m g->WSit P Φ i ⟨7,rk,m,emp⟩ 0 g
 | dis {g:Goroutine} {rk:Rk} {m:Nat}:Sil P false Φ.J (AtK1 P Φ) m g->WSit P Φ i ⟨6,rk,m,emp⟩ 0 g
 | d1 {g:Goroutine} {rk:Rk} {m:Nat}:Sil P false Φ.J (AtD1 P Φ) m g->WSit P Φ i ⟨5,rk,m,emp⟩ 1 g
 | d2 {g:Goroutine} {rk:Rk} {m:Nat}:Sil P false Φ.J (AtD2 P Φ) m g->WSit P Φ i ⟨4,rk,m,emp⟩ 1 g
 | d3 {g:Goroutine} {rk:Rk} {m:Nat}:Sil P false Φ.J (AtD3 P Φ) m g->WSit P Φ i ⟨3,rk,m,emp⟩ 1 g
 | d4 {g:Goroutine} {rk:Rk} {m:Nat}:Sil P false Φ.J (AtD4 P Φ) m g->WSit P Φ i ⟨2,rk,m,emp⟩ 1 g
 | quit {g:Goroutine} {rk:Rk} {m d:Nat}:QuitsD P m d g->WSit P Φ i ⟨1,rk,m,emp⟩ d g
variable {P:Program}{g:Goroutine}{w:World}
theorem Sil.status{main:Bool}{J:World->Prop}{Stop:Goroutine->World->Prop}{n:Nat}(hJ:J w)(hs:∀g w,Stop g w->g.status=.running)(H:Sil P main J Stop n g):g.status=.running:=by
 rcases H.cases with h | ⟨k,_,h,_⟩
 ·exact hs _ _ (h w hJ)
 ·exact h
theorem WSit.status{Φ:Ph}{i d:Nat}{x:WS}(hJ:Φ.J w)(H:WSit P Φ i x d g):g.status=.running\/(g.status=.finished/\x.stage=1):=by
 cases H with
 | put h=>exact .inl rfl
 | rel h=>exact .inl (h.status hJ fun _ _ h=>h.1)
 | dis h=>exact .inl (h.status hJ fun _ _ h=>h.1)
 | d1 h=>exact .inl (h.status hJ fun _ _ h=>h.1)
 | d2 h=>exact .inl (h.status hJ fun _ _ h=>h.1)
 | d3 h=>exact .inl (h.status hJ fun _ _ h=>h.1)
 | d4 h=>exact .inl (h.status hJ fun _ _ h=>h.1)
 | quit h=>exact h.status.imp id fun h=>⟨h,rfl⟩
def WS.lt(y x:WS):Prop:=Prod.Lex (· < ·) (Prod.Lex Rk.lt (· < ·)) (y.stage,y.rk,y.fuel) (x.stage,x.rk,x.fuel)
theorem WS.wf:WellFounded WS.lt:=InvImage.wf (fun x:WS=>(x.stage,x.rk,x.fuel)) (Prod.lex Nat.lt_wfRel (Prod.lex ⟨Rk.lt,Rk.wf⟩ Nat.lt_wfRel)).wf
theorem WS.wA{x y:WS}(h:y.stage<x.stage):WS.lt y x:=.left _ _ h
theorem WS.za1{x y:WS}(h:y.stage=x.stage)(hr:Rk.lt y.rk x.rk):WS.lt y x:=by
 obtain⟨s,r,f,hp⟩:=y;obtain⟨s',r',f',hp'⟩:=x;simp only at h hr;subst h;exact .right _ (.left _ _ hr)
theorem WS.Mq{x y:WS}(h:y.stage=x.stage)(hr:y.rk=x.rk)(hf:y.fuel<x.fuel):WS.lt y x:=by
 obtain⟨s,r,f,hp⟩:=y;obtain⟨s',r',f',hp'⟩:=x;simp only at h hr hf;subst h hr;exact .right _ (.right _ hf)
end Go.Eng
namespace Go.Eng
open Go Go.Conc Go.ConcN
open Go.ConcR (KK wgBlock WgAt stA smA rd wr mk g_of_ofEvents Bk DC0 bk_of_mute ofEvent_loc_mark ofEvent_cell ofEvent_mk deafBehind_cons deafBehind_one)
structure InPh(P:Program)(Φ:Ph)(N0 j:Nat)(h:Heap)(T:List WS)(gs:Array Goroutine)(w:World)(t:Trace):Prop where
 len:T.length=N0+j
 jn:j<=Φ.n
 gsz:gs.size=T.length+1
 sit:∀(k:Nat) (x:WS),T[k]? = some x->∃g,gs[k+1]? = some g/\WSit P Φ (k-N0) x (Deaf t (k+1)) g
 old:∀(k:Nat) (x:WS),T[k]? = some x->k<N0->x.stage=1
 CW:Φ.C≠Φ.Wg
 hno:h Φ.Wg=none/\h Φ.C=none
 xno:∀(k:Nat) (x:WS),T[k]? = some x->x.heap Φ.Wg=none/\x.heap Φ.C=none
 lt:Φ.Wg<w.heap.size/\Φ.C<w.heap.size
 pay:Φ.pay w
 quiet:∀(i:Nat) (a:Touch) (ad:Addr),touchAt t i=some a->a.loc=.cell ad->ad.block=Φ.Wg->(a.kind ≠ .plain/\(a.kind=.said->t.g? i=some 0))\/∀k,k=0\/(N0<k/\k<=N0+j)->Knows t k i
 cellF:∀(off i:Nat) (a:Touch),j<=off->touchAt t i=some a->a.loc=.cell ⟨Φ.C,off,none⟩->Knows t 0 i
 cellW:∀(k:Nat) (x:WS),T[k]? = some x->x.stage=8->∀(i:Nat) (a:Touch),touchAt t i=some a->a.loc=.cell ⟨Φ.C,k-N0,none⟩->Knows t (k+1) i
 cC:∀(i:Nat) (a:Touch) (ad:Addr),touchAt t i=some a->a.loc=.cell ad->ad.block=Φ.C->Knows t 0 i\/(a.kind=.plain/\∃k,N0<k/\t.g? i=some k)
 vals:∀(k:Nat) (x:WS),T[k]? = some x->N0<=k->x.stage<8->w.cell? ⟨Φ.C,k-N0,none⟩=some (Φ.val (k-N0))
 rel:∀(k:Nat) (x:WS),T[k]? = some x->N0<=k->x.stage<7->∃r,RelBy (stA Φ.Wg) t (k+1) r
variable {P:Program}{g g' o:Goroutine}{w':World}
theorem BO(h:o.status=.running\/o.status=.finished):woken P g g' w' o=o:=by
 unfold woken;split
 ·exact again_running _ h
 ·rfl
variable {b i k:Nat}
section
variable {Φ:Ph}{N0 j:Nat}{h h' : Heap}{T:List WS}{gs:Array Goroutine}{w0 w : World}{t:Trace}{es:Array Event}{sl:Option (Nat × Nat)}{st sm:Int}
theorem Com.at{S:Shared}(C:Com w0 S N0 h T w t)(d:Nat):Com w0 S N0 h T (w.at d) t:=
 ⟨C.env,C.has,C.inv,C.hasW,C.apart,C.apart2,C.nr,C.gsb,C.lo,C.norel,C.kn,C.knW,C.ho⟩
theorem InPh.at(I:InPh P Φ N0 j h T gs w t)(d:Nat):InPh P Φ N0 j h T gs (w.at d) t:=
 ⟨I.len,I.jn,I.gsz,I.sit,I.old,I.CW,I.hno,I.xno,I.lt,I.pay,I.quiet,I.cellF,I.cellW,I.cC,I.vals,I.rel⟩
theorem InPh.J(I:InPh P Φ N0 j h T gs w t)(hw:WgAt Φ.ty Φ.Wg w st sm):Φ.J w:=⟨⟨_,_,hw⟩,I.pay⟩
def kW(P:Program)(gs:Array Goroutine)(k:Nat)(g g':Goroutine)(w':World):Array Goroutine:=(gs.map (woken P g g' w')).setIfInBounds (k+1) g'
theorem P8(hk:gs[k+1]? = some g)(hs:stepG P false g w=.go g' w' es) :
  runT P (crowd gs w sl) (k+1)=(.next (crowd (kW P gs k g g' w') w' sl),MemOp.ofEvents (k+1) g.frame.fn g.frame.place es):=runT_crowd_go hk hs
theorem DF{g g' g0:Goroutine}(h0:gs[0]? = some g0):(kW P gs k g g' w')[0]? = some (woken P g g' w' g0):=by
 unfold kW;rw[get_map_set _ _ _ _ (by omega),h0];rfl
theorem HA(hk:gs[k+1]? = some g):(kW P gs k g g' w')[k+1]? = some g':=by
 unfold kW;exact get_map_set_same _ _ _ (Array.getElem?_eq_some_iff.1 hk).1
theorem KY(hne:i≠k)(hi:gs[i+1]? = some o)(ho:o.status=.running\/o.status=.finished):(kW P gs k g g' w')[i+1]? = some o:=by
 unfold kW;rw[get_map_set _ _ _ _ (by omega),hi,Option.map_some,BO ho]
theorem UE(fn:FuncId)(pos:String)(es:Array Event)(hne:i≠k):Deaf (t++MemOp.ofEvents (k+1) fn pos es) (i+1)=Deaf t (i+1):=Deaf_other t (by omega) _ g_of_ofEvents
def zaW(Φ:Ph)(k N0:Nat)(isPut:Prop)(e:Event):Prop:=
 ∀b,(MemAct.ofEvent e).touch? = some b->∃ad,b.loc=.cell ad/\(ad.block=Φ.Wg->b.kind=.atomic)/\(ad.block=Φ.C->isPut/\ad=⟨Φ.C,k-N0,none⟩/\b.kind=.plain)
theorem InPh.step(I:InPh P Φ N0 j h T gs w t)(hJ:Φ.J w){k:Nat}{g g':Goroutine}{x y:WS}(hk:gs[k+1]? = some g)(hx:T[k]? = some x)(fn:FuncId)(pos:String){isPut:Prop}(hes:∀e∈es,zaW Φ k N0 isPut e)
  (hN:N0<=k\/∀e∈es,(MemAct.ofEvent e).touch? = none)(hy:WSit P Φ (k-N0) y (deafBehind (Deaf t (k+1)) es) g')(hold:k<N0->y.stage=1)(hyno:y.heap Φ.Wg=none/\y.heap Φ.C=none)
  (hput:isPut->x.stage=8)(h8:y.stage=8->x.stage=8)(hlt:w.heap.size<=w'.heap.size)(hpay:Φ.pay w')(zj:∀off,(off≠k-N0\/k<N0)->w'.cell? ⟨Φ.C,off,none⟩=w.cell? ⟨Φ.C,off,none⟩)
  (hval:N0<=k->y.stage<8->w'.cell? ⟨Φ.C,k-N0,none⟩=some (Φ.val (k-N0)))(hrel:N0<=k->y.stage<7->∃r,RelBy (stA Φ.Wg) (t++MemOp.ofEvents (k+1) fn pos es) (k+1) r) :
  InPh P Φ N0 j h (T.set k y) (kW P gs k g g' w') w' (t++MemOp.ofEvents (k+1) fn pos es):=by
 have hg:∀op∈MemOp.ofEvents (k+1) fn pos es,op.g=k+1:=g_of_ofEvents;have hkl:k<T.length:=(List.getElem?_eq_some_iff.1 hx).1;have evt:∀ {op:MemOp} {b:Touch},op∈MemOp.ofEvents (k+1) fn pos es->op.act.touch? = some b->N0<=k/\∃ad,b.loc=.cell ad/\(ad.block=Φ.Wg->b.kind=.atomic)/\(ad.block=Φ.C->isPut/\ad=⟨Φ.C,k-N0,none⟩/\b.kind=.plain):=fun hop hb=>by
  obtain⟨e,he,rfl⟩:=yK hop;refine⟨hN.resolve_right fun h=>?_,hes e he _ hb⟩;have:=h e he;simp only at hb;rw[this]at hb;cases hb
 refine⟨by rw[List.length_set];exact I.len,I.jn,by rw[List.length_set,<-I.gsz];simp[kW],?_,?_,I.CW,I.hno,?_,⟨by have:=I.lt;omega,by have:=I.lt;omega⟩,hpay,?_,?_,?_,?_,?_,?_⟩
 ·intro i z hz;rcases yH hz with⟨rfl,rfl⟩ | ⟨hi,hz⟩
  ·exact⟨g',HA hk,by rw[Deaf_own];exact hy⟩
  ·obtain⟨o,ho,hs⟩:=I.sit i z hz;exact⟨o,KY (Ne.symm hi) ho ((hs.status hJ).imp id fun h=>h.1),by rw[UE fn pos es (Ne.symm hi)];exact hs⟩
 ·intro i z hz hi;rcases yH hz with⟨rfl,rfl⟩ | ⟨_,hz⟩
  ·exact hold hi
  ·exact I.old i z hz hi
 ·intro i z hz;rcases yH hz with⟨rfl,rfl⟩ | ⟨_,hz⟩
  ·exact hyno
  ·exact I.xno i z hz
 ·intro i a ad ha hl hb;rcases yu ha with⟨hlt,h1⟩ | ⟨op,h1,h2,h3⟩
  ·rcases I.quiet i a ad h1 hl hb with⟨h4,h5⟩ | h4
   ·exact .inl ⟨h4,fun h=>by rw[g?_old hlt];exact h5 h⟩
   ·exact .inr fun k hk=>jh (h4 k hk)
  ·obtain⟨_,ad2,e1,e2,_⟩:=evt h1 h2;rw[hl]at e1;cases e1
   exact .inl ⟨by rw[e2 hb];simp,by rw[e2 hb];simp⟩
 ·intro off i a ho ha hl;rcases yu ha with⟨hlt,h1⟩ | ⟨op,h1,h2,h3⟩
  ·exact jh (I.cellF off i a ho h1 hl)
  ·obtain⟨hNk,ad2,e1,_,e2⟩:=evt h1 h2;rw[hl]at e1;cases e1
   have e3:=(e2 rfl).2.1;simp only[Addr.mk.injEq,true_and,and_true]at e3;have:=I.len;omega
 ·intro i z hz hz8 q a ha hl;rcases yu ha with⟨hlt,h1⟩ | ⟨op,h1,h2,h3⟩
  ·rcases yH hz with⟨rfl,rfl⟩ | ⟨_,hz⟩
   ·exact jh (I.cellW k x hx (h8 hz8) q a h1 hl)
   ·exact jh (I.cellW i z hz hz8 q a h1 hl)
  ·obtain⟨hNk,ad2,e1,_,e2⟩:=evt h1 h2;rw[hl]at e1;cases e1
   have e3:=(e2 rfl).2.1;simp only[Addr.mk.injEq,true_and,and_true]at e3;have hiN:N0<=i:=by
    rcases yH hz with⟨rfl,rfl⟩ | ⟨_,hz⟩
    ·exact hNk
    ·refine Nat.le_of_not_lt fun hlt=>?_
     have:=I.old i z hz hlt;omega
   obtain rfl:i=k:=by omega
   have:=knows_own h3;rwa[hg op h1]at this
 ·intro i a ad ha hl hb;rcases yu ha with⟨hlt,h1⟩ | ⟨op,h1,h2,h3⟩
  ·rcases I.cC i a ad h1 hl hb with h4 | ⟨h4,q,h5,h6⟩
   ·exact .inl (jh h4)
   ·exact .inr ⟨h4,q,h5,by rw[g?_old hlt];exact h6⟩
  ·obtain⟨hNk,ad2,e1,_,e2⟩:=evt h1 h2;rw[hl]at e1;cases e1
   exact .inr ⟨(e2 hb).2.2,k+1,by omega,by simp[Trace.g?,h3,hg op h1]⟩
 ·intro i z hz hi hs;rcases yH hz with⟨rfl,rfl⟩ | ⟨hne,hz⟩
  ·exact hval hi hs
  ·rw[zj _ (by omega)];exact I.vals i z hz hi hs
 ·intro i z hz hi hs;rcases yH hz with⟨rfl,rfl⟩ | ⟨hne,hz⟩
  ·exact hrel hi hs
  ·obtain⟨r,hr⟩:=I.rel i z hz hi hs;exact⟨r,hr.appOther hg (by omega)⟩
inductive Turn (P:Program) (g g':Goroutine) (a b:Nat) (st sm:Int):Int->Int->Prop
 | same:b=a\/(5<=a/\5<=b)->Turn P g g' a b st sm st sm
 | add {v wt:Nat}:wt<=1->a=5->st=(v+1)*KK+wt->b=(if v=0/\wt=1 then 4 else 1)->Turn P g g' a b st sm (v*KK+wt) 0
 | seen:a=4->b=3->Turn P g g' a b st sm st sm
 | nought:a=3->b=2->Turn P g g' a b st sm 0 0
 | gone:a=2->b=1->mayWake P g=true->g'.status ≠ .blocked/\g'.status ≠ .waiting->Turn P g g' a b st sm 0 1
structure Fits(a:Nat)(st sm:Int):Prop where
 five:a=5->∃v wt:Nat,wt<=1/\v<2147483647/\st=(v+1)*KK+wt/\sm=0
 mid:a=4\/a=3->st=1/\sm=0
 two:a=2->st=0/\sm=0
def P9(P:Program)(Φ:Ph)(N0 j:Nat)(h:Heap)(T:List WS)(gs:Array Goroutine)(w0 w:World)(t:Trace)(k:Nat)(g:Goroutine)(x:WS)(st sm:Int):Prop:=
 ∃g' w' es y st' sm',stepG P false g w=.go g' w' es/\WS.lt y x/\Com w0 Φ.S N0 h (T.set k y) w' (t++MemOp.ofEvents (k+1) g.frame.fn g.frame.place es) /\
  InPh P Φ N0 j h (T.set k y) (kW P gs k g g' w') w' (t++MemOp.ofEvents (k+1) g.frame.fn g.frame.place es)/\WgAt Φ.ty Φ.Wg w' st' sm'/\Turn P g g' x.stage y.stage st sm st' sm'
theorem KZ(ha:Aside b w w'){c off:Nat}(hc:c≠b):w'.cell? ⟨c,off,none⟩=w.cell? ⟨c,off,none⟩:=by
 simp only[World.cell?,ha.block c hc]
theorem qp(C:Com w0 Φ.S N0 h T w t)(I:InPh P Φ N0 j h T gs w t)(hw:WgAt Φ.ty Φ.Wg w st sm){x y:WS}(hk:gs[k+1]? = some g)(hx:T[k]? = some x)(hs:stepG P false g w=.go g' w' es){st' sm':Int}
  (hA:Aside Φ.Wg w w')(hw':WgAt Φ.ty Φ.Wg w' st' sm')(hbk:∀e∈es,Bk Φ.Wg e\/e=mk (.releaseMerge (stA Φ.Wg)))(hN:N0<=k\/∀e∈es,(MemAct.ofEvent e).touch? = none)
  (hy:WSit P Φ (k-N0) y (deafBehind (Deaf t (k+1)) es) g')(hxe:x.heap=emp)(hye:y.heap=emp)(hold:k<N0->y.stage=1)(h8:y.stage<8)(hx8:x.stage<8)
  (hrel:N0<=k->y.stage<7->∃r,RelBy (stA Φ.Wg) (t++MemOp.ofEvents (k+1) g.frame.fn g.frame.place es) (k+1) r)(hlt:WS.lt y x)(htn:Turn P g g' x.stage y.stage st sm st' sm') :
  P9 P Φ N0 j h T gs w0 w t k g x st sm:=by
 have hkl:k<T.length:=(List.getElem?_eq_some_iff.1 hx).1;have tch:∀e∈es,∀b,(MemAct.ofEvent e).touch? = some b->∃ad,b.loc=.cell ad/\ad.block=Φ.Wg/\b.kind=.atomic:=by
  intro e he b hb;rcases hbk e he with h1 | rfl
  ·rcases h1 with h1 | h1 | ⟨a,q,rfl,ha⟩
   ·rw[ofEvent_loc_mark h1]at hb;cases hb
   ·rw[ofEvent_loc_mark h1]at hb;cases hb
   ·rw[ofEvent_cell]at hb;simp only[MemAct.touch?,Option.some.injEq]at hb;subst hb;exact⟨a,rfl,ha,rfl⟩
  ·cases hb
 refine⟨g',w',es,y,st',sm',hs,hlt,?_,?_,hw',htn⟩
 ·refine C.other (g:=k+1) (by omega) g_of_ofEvents (List.length_set ..) ?_ ⟨hA.os,hA.tape,hA.output⟩ hA.size ?_ ?_ ?_ ?_
  ·intro i z hz;rcases yH hz with⟨rfl,rfl⟩ | ⟨_,hz⟩
   ·exact⟨x,hx,fun b hb=>by rw[hye]at hb;exact absurd rfl hb⟩
   ·exact⟨z,hz,fun b _=>rfl⟩
  ·intro b hb;refine hA.block b fun e=>?_
   subst e;rcases hb with hb | ⟨i,z,hz,hb⟩
   ·exact hb I.hno.1
   ·exact hb (I.xno i z hz).1
  ·intro op hop b hb;obtain⟨e,he,rfl⟩:=yK hop;obtain⟨ad,h1,h2,h3⟩:=tch e he b hb;refine⟨ad,h1,by rw[h2];exact I.lt.1,by rw[h2];exact I.hno.1,fun i z hz=>by rw[h2];exact(I.xno i z hz).1,fun said i a ha hc=>?_⟩;have hNk:N0<=k:=hN.resolve_right fun h=>by have:=h e he;simp only at hb;rw[this]at hb;cases hb
   rcases I.quiet i a ad ha (hc.1.trans h1) h2 with⟨h4,_⟩ | h4
   ·rcases hc.2.2.2 with h5 | h5 | ⟨_,_,h5⟩
    ·exact absurd h5 h4
    ·rw[h3]at h5;cases h5
    ·rw[h3]at h5;cases h5
   ·exact h4 _ (.inr ⟨by omega,by have:=I.len;omega⟩)
  ·intro op hop a hr;obtain⟨e,he,rfl⟩:=yK hop;simp only at hr;rcases hbk e he with h1 | rfl
   ·rcases h1 with h1 | h1 | ⟨a,q,rfl,ha⟩
    ·rw[ofEvent_loc_mark h1]at hr;cases hr
    ·rw[ofEvent_loc_mark h1]at hr;cases hr
    ·rw[ofEvent_cell]at hr;cases hr
   ·cases hr
  ·rcases hN with h1 | h1
   ·exact .inr (.inl (by omega))
   ·refine .inr (.inr fun op hop=>?_);obtain⟨e,he,rfl⟩:=yK hop;exact h1 e he
 ·obtain⟨cs,hc1,hc2⟩:=I.pay;refine I.step (I.J hw) hk hx _ _ (isPut:=False) (fun e he b hb=>?_) hN hy hold (by rw[hye];exact⟨rfl,rfl⟩) False.elim (fun h=>by omega) (by rw[hA.size];exact Nat.le_refl _) ⟨cs,(hA.block _ I.CW).trans hc1,hc2⟩ (fun off _=>KZ hA I.CW)
   (fun hNk h=>by rw[KZ hA I.CW];exact I.vals k x hx hNk hx8) hrel
  obtain⟨ad,h1,h2,h3⟩:=tch e he b hb;exact⟨ad,h1,fun _=>h3,fun e=>absurd (e.symm.trans h2) I.CW⟩
theorem Nj(hb:w'.heap[b]? = w.heap[b]?)(off:Nat):w'.cell? ⟨b,off,none⟩=w.cell? ⟨b,off,none⟩:=by
 simp only[World.cell?,hb]
theorem Yo(C:Com w0 Φ.S N0 h T w t)(I:InPh P Φ N0 j h T gs w t)(hw:WgAt Φ.ty Φ.Wg w st sm){fr fr':Frame}{cs cs':List Frame}{x:WS}(hk:gs[k+1]? = some (gor fr cs))(hx:T[k]? = some x)(hs:stepG P false (gor fr cs) w=.go (gor fr' cs') w' es)
  (K:Kept Φ.S x.heap h' w w')(hes:∀e∈es,Ai Φ.S x.heap w w' e){rk:Rk}(hR:Mo P Φ.S false Φ.J (Ik P Φ (k-N0)) rk fr' cs' h')(hx8:x.stage=8)(hlt:Rk.lt rk x.rk)(hd:Deaf t (k+1)=0)(hN:N0<=k) :
  P9 P Φ N0 j h T gs w0 w t k (gor fr cs) x st sm:=by
 obtain⟨hxW,hxC⟩:=I.xno k x hx;have hW:=(K.old Φ.Wg I.lt.1 hxW);have hC:=(K.old Φ.C I.lt.2 hxC);have dz:deafBehind (Deaf t (k+1)) es=0:=by
  rw[hd];refine deafBehind_idle (fun e he=>?_) 0;rcases hes e he with⟨a,h1,_⟩ | ⟨m,hm,rfl⟩
  ·rw[h1];exact⟨by simp,by simp⟩
  ·cases m <;> simp[Quiet]at hm ⊢
 obtain⟨xs,hc1,hc2⟩:=I.pay;refine⟨gor fr' cs',w',es,⟨8,rk,x.fuel,h'⟩,st,sm,hs,WS.za1 hx8.symm hlt,C.worker hx hN K hes _ _ rfl,?_,hW.1.trans hw,.same (.inl hx8.symm)⟩;refine I.step (I.J hw) hk hx _ _ (isPut:=False) (fun e he b hb=>?_) (.inl hN) (by rw[dz];exact .put hR) (fun h=>by omega) ⟨hW.2,hC.2⟩ False.elim (fun _=>hx8) K.size ⟨xs,hC.1.trans hc1,hc2⟩ (fun off _=>Nj hC.1 off)
  (fun _ h=>by simp only at h;omega) (fun _ h=>by simp only at h;omega)
 have hop:({ g:=0,fn:=0,pos := "",act:=.ofEvent e }:MemOp)∈MemOp.ofEvents 0 0 "" #[e]:=by simp[MemOp.ofEvents]
 obtain⟨ad,h1,h2,h3,_,_⟩:=jD (S:=Φ.S) (h:=x.heap) (w:=w) (w':=w') (es:=#[e]) (fun e' he'=>by simp at he';rw[he'];exact hes e he) hop hb;refine⟨ad,h1,fun e1=>?_,fun e1=>?_⟩
 ·rw[e1]at h3;rcases h3 with h3 | h3
  ·exact absurd hxW h3
  ·have:=I.lt.1;omega
 ·rw[e1]at h3;rcases h3 with h3 | h3
  ·exact absurd hxC h3
  ·have:=I.lt.2;omega
theorem Yp(C:Com w0 Φ.S N0 h T w t)(I:InPh P Φ N0 j h T gs w t)(hw:WgAt Φ.ty Φ.Wg w st sm){x:WS}(hk:gs[k+1]? = some g)(hx:T[k]? = some x)
  (hs:stepG P false g w=.go g' (w.setCell ⟨Φ.C,k-N0,none⟩ (Φ.val (k-N0))) #[⟨.cell ⟨Φ.C,k-N0,none⟩,true,false⟩]){m:Nat}(hR:Sil P false Φ.J (AtR0 P Φ) m g')(hx8:x.stage=8)(hd:Deaf t (k+1)=0)(hN:N0<=k) :
  P9 P Φ N0 j h T gs w0 w t k g x st sm:=by
 have hkl:k<T.length:=(List.getElem?_eq_some_iff.1 hx).1;have hA:Aside Φ.C w (w.setCell ⟨Φ.C,k-N0,none⟩ (Φ.val (k-N0))):=aside_setCell w ⟨Φ.C,k-N0,none⟩ _;obtain⟨xs,hc1,hc2⟩:=I.pay;have hkn:k-N0<Φ.n:=by have:=I.len;have:=I.jn;omega
 have hrow:(w.setCell ⟨Φ.C,k-N0,none⟩ (Φ.val (k-N0))).heap[Φ.C]? = some (.cells (xs.setIfInBounds (k-N0) (Φ.val (k-N0))) Φ.ety):=by
  rw[setCell_eq_setRow w Φ.C (k-N0) xs Φ.ety (0,0) _ hc1,setRow_heap w Φ.C _ _ Φ.ety _ hc1]
 have tch:∀ {fn:FuncId} {pos:String} {op:MemOp} {b:Touch},op∈MemOp.ofEvents (k+1) fn pos #[⟨.cell ⟨Φ.C,k-N0,none⟩,true,false⟩]->op.act.touch? = some b->b=⟨.cell ⟨Φ.C,k-N0,none⟩,true,.plain⟩:=fun hop hb=>by
  obtain⟨e,he,rfl⟩:=yK hop;simp only[List.mem_toArray,List.mem_singleton]at he;subst he;simp only[ofEvent_cell,MemAct.touch?,Option.some.injEq]at hb;exact hb.symm
 refine⟨g',_,_,⟨7,x.rk,m,emp⟩,st,sm,hs,WS.wA (by rw[hx8];show 7<8;omega),?_,?_,(hA.block _ (Ne.symm I.CW)).trans hw,.same (.inr ⟨by omega,by show 5<=7;omega⟩)⟩
 ·refine C.other (g:=k+1) (by omega) g_of_ofEvents (List.length_set ..) ?_ ⟨hA.os,hA.tape,hA.output⟩ hA.size ?_ ?_ ?_ (.inr (.inl (by omega)))
  ·intro i z hz;rcases yH hz with⟨rfl,rfl⟩ | ⟨_,hz⟩
   ·exact⟨x,hx,fun b hb=>absurd rfl hb⟩
   ·exact⟨z,hz,fun b _=>rfl⟩
  ·intro b hb;refine hA.block b fun e=>?_
   subst e;rcases hb with hb | ⟨i,z,hz,hb⟩
   ·exact hb I.hno.2
   ·exact hb (I.xno i z hz).2
  ·intro op hop b hb;have e:=tch hop hb;subst e;exact⟨_,rfl,I.lt.2,I.hno.2,fun i z hz=>(I.xno i z hz).2,fun said i a ha hc=>I.cellW k x hx hx8 i a ha hc.1⟩
  ·intro op hop a hr;obtain⟨e,he,rfl⟩:=yK hop;simp only[List.mem_toArray,List.mem_singleton]at he;subst he;simp[ofEvent_cell]at hr
 ·refine I.step (I.J hw) hk hx _ _ (isPut:=True) (fun e he b hb=>?_) (.inl hN) ?_ (fun h=>by omega) ⟨rfl,rfl⟩ (fun _=>hx8) (fun h=>by simp at h) (by rw[hA.size];exact Nat.le_refl _) ⟨_,hrow,by simp[hc2]⟩ (fun off ho=>?_) (fun _ _=>?_) (fun _ h=>by simp at h)
  ·simp only[List.mem_toArray,List.mem_singleton]at he;subst he;simp only[ofEvent_cell,MemAct.touch?,Option.some.injEq]at hb;subst hb;exact⟨_,rfl,fun e=>absurd e I.CW,fun _=>⟨trivial,rfl,rfl⟩⟩
  ·have e:deafBehind (Deaf t (k+1)) #[⟨.cell ⟨Φ.C,k-N0,none⟩,true,false⟩]=0:=by rw[hd];rfl
   rw[e];exact .rel hR
  ·simp only[World.cell?,hrow,hc1];rw[Array.getElem?_setIfInBounds_ne (by omega)]
  ·simp only[World.cell?,hrow];simp[hc2,hkn]
end
end Go.Eng
namespace Go.Eng
open Go Go.Conc Go.ConcN
open Go.ConcR (KK wgBlock WgAt stA smA rd wr mk g_of_ofEvents Bk DC0 bk_of_mute ofEvent_loc_mark ofEvent_cell ofEvent_mk deafBehind_cons deafBehind_one)
variable {d k:Nat}{g:Goroutine}
section
variable {P:Program}{Φ:Ph}{N0 j:Nat}{h h' : Heap}{T:List WS}{gs:Array Goroutine}{w0 w w' : World}{t:Trace}{es:Array Event}{sl:Option (Nat × Nat)}{st sm:Int}
theorem Fits.keep{a:Nat}(F:Fits a st sm):Fits a st sm:=F
theorem CQ(C:Com w0 Φ.S N0 h T w t)(I:InPh P Φ N0 j h T gs w t)(hw:WgAt Φ.ty Φ.Wg w st sm){g g':Goroutine}{x:WS}(hk:gs[k+1]? = some g)(hx:T[k]? = some x)(hs:stepG P false g w=.go g' w #[])
  (hxe:x.heap=emp)(hx8:x.stage<8){m:Nat}(hy:WSit P Φ (k-N0) ⟨x.stage,x.rk,m,emp⟩ (Deaf t (k+1)) g')(hm:m<x.fuel)(hN:N0<=k\/x.stage=1):P9 P Φ N0 j h T gs w0 w t k g x st sm:=by
 refine qp C I hw hk hx hs (y:=⟨x.stage,x.rk,m,emp⟩) (Aside.refl _ _) hw (fun e he=>by simp at he) (.inr fun e he=>by simp at he) hy hxe rfl (fun hlt=>I.old k x hx hlt) hx8 hx8 (fun hNk h7=>?_) (WS.Mq rfl rfl hm) (.same (.inl rfl));obtain⟨r,hr⟩:=I.rel k x hx hNk h7;exact⟨r,hr.book (Wg:=Φ.Wg) rfl _ _ (fun e he=>by simp at he) (fun j e he=>by simp at he)⟩
theorem Yq(hd:0<d)(a b:Addr):∀(j:Nat) (e:Event),(#[rd a,wr b]:Array Event)[j]? = some e->(MemAct.ofEvent e).touch? = none\/0<deafBehind d ((#[rd a,wr b]:Array Event).extract 0 j):=by
 intro j e he;refine .inr ?_;rcases j with _ | _ | j
 ·exact hd
 ·exact hd
 ·simp at he
theorem PC(hd:0<d)(e0:Event):∀(j:Nat) (e:Event),(#[e0]:Array Event)[j]? = some e->(MemAct.ofEvent e).touch? = none\/0<deafBehind d ((#[e0]:Array Event).extract 0 j):=by
 intro j e he;rcases j with _ | j
 ·exact .inr hd
 ·simp at he
theorem Wo(hd:0<d)(a:Addr):∀(j:Nat) (e:Event),(semEvents a)[j]? = some e->(MemAct.ofEvent e).touch? = none\/0<deafBehind d ((semEvents a).extract 0 j):=by
 intro j e he;refine .inr ?_;rcases j with _ | _ | _ | _ | j
 ·exact hd
 ·show 0<d+1;omega
 ·show 0<d+1;omega
 ·show 0<d+1;omega
 ·simp[semEvents]at he
theorem bk_sem{Wg:Nat}(a:Addr)(h:a.block=Wg):∀e∈semEvents a,Bk Wg e:=by
 intro e he;simp only[semEvents,List.mem_toArray,List.mem_cons,List.not_mem_nil,or_false]at he;rcases he with rfl | rfl | rfl | rfl
 ·exact .inl rfl
 ·exact bk_cell _ _ h
 ·exact bk_cell _ _ h
 ·exact .inr (.inl rfl)
theorem Xg(C:Com w0 Φ.S N0 h T w t)(I:InPh P Φ N0 j h T gs w t)(hw:WgAt Φ.ty Φ.Wg w st sm){x:WS}(hk:gs[k+1]? = some g)(hx:T[k]? = some x)(hrun:g.status=.running)(F:Fits x.stage st sm) :
  P9 P Φ N0 j h T gs w0 w t k g x st sm:=by
 obtain⟨g1,hg1,hs⟩:=I.sit k x hx;obtain rfl:g1=g:=by rw[hk]at hg1;exact(Option.some.inj hg1).symm
 have hJ:=I.J hw;have young:x.stage≠1->N0<=k:=fun h=>Nat.le_of_not_lt fun hlt=>h (I.old k x hx hlt)
 generalize hd:Deaf t (k+1)=dd at hs;have hAst:∀v:Int,Aside Φ.Wg w (w.setCell (stA Φ.Wg) (.int .u64 v)):=fun v=>aside_setCell w (stA Φ.Wg) _
 have hAsm:∀v:Int,Aside Φ.Wg w (w.setCell (smA Φ.Wg) (.int .u32 v)):=fun v=>aside_setCell w (smA Φ.Wg) _
 cases hs with
 | @put fr cs rk f hp hR=>
  have hNk:=young (by simp);cases rk with
  | leaf=>
   obtain⟨g',h1,m,h2⟩:=hR w (C.hasW k _ hx) hJ;exact Yp C I hw hk hx h1 h2 rfl hd hNk
  | node f=>
   obtain⟨fr',cs',w',es,h',h1,h2,h3,h4⟩:=hR w (C.hasW k _ hx) hJ;exact Yo C I hw hk hx h1 h2 h3 h4 rfl ⟨f,w,rfl,rfl⟩ hd hNk
 | @rel _ rk m hR=>
  have hNk:=young (by simp);rcases hR.cases with hst | ⟨m',rfl,_,hst⟩
  ·obtain⟨_,g',h1,m',h2⟩:=hst w hJ;refine qp C I hw hk hx h1 (y:=⟨6,rk,m',emp⟩) (Aside.refl _ _) hw (fun e he=>?_) (.inl hNk) (by rw[hd];exact .dis h2) rfl rfl (fun h=>by omega) (by show 6<8;omega) (by show 7<8;omega) (fun _ _=>⟨_,RelBy.new hd _ _⟩) (WS.wA (by show 6<7;omega)) (.same (.inr ⟨by show 5<=7;omega,by show 5<=6;omega⟩));simp only[List.mem_toArray,List.mem_singleton]at he;exact .inr he
  ·obtain⟨g',h1,h2⟩:=hst w hJ;exact CQ C I hw hk hx h1 rfl (by show 7<8;omega) (by rw[hd];exact .rel h2) (Nat.lt_succ_self _) (.inl hNk)
 | @dis _ rk m hR=>
  have hNk:=young (by simp);rcases hR.cases with hst | ⟨m',rfl,_,hst⟩
  ·obtain⟨_,g',h1,m',h2⟩:=hst w hJ;have hb:∀e∈(#[mk .disable]:Array Event),Bk Φ.Wg e:=fun e he=>by
    simp only[List.mem_toArray,List.mem_singleton]at he;exact .inl (by rw[he];rfl)
   refine qp C I hw hk hx h1 (y:=⟨5,rk,m',emp⟩) (Aside.refl _ _) hw (fun e he=>.inl (hb e he)) (.inl hNk) (by rw[hd];exact .d1 h2) rfl rfl (fun h=>by omega) (by show 5<8;omega) (by show 6<8;omega) (fun _ _=>?_) (WS.wA (by show 5<6;omega)) (.same (.inr ⟨by show 5<=6;omega,by show 5<=5;omega⟩));obtain⟨r,hr⟩:=I.rel k _ hx hNk (by show 6<7;omega);refine⟨r,hr.book hd _ _ hb fun j e he=>.inl ?_⟩;rcases j with _ | j
   ·simp at he;rw[<-he];rfl
   ·simp at he
  ·obtain⟨g',h1,h2⟩:=hst w hJ;exact CQ C I hw hk hx h1 rfl (by show 6<8;omega) (by rw[hd];exact .dis h2) (Nat.lt_succ_self _) (.inl hNk)
 | @d1 _ rk m hR=>
  have hNk:=young (by simp);rcases hR.cases with hst | ⟨m',rfl,_,hst⟩
  ·obtain⟨v,wt,hwt,hv,rfl,rfl⟩:=F.five rfl;obtain⟨_,h0⟩:=hst w hJ;obtain⟨g',h1,h2,h3⟩:=h0 v wt hwt hv hw;have hb:∀e∈(#[rd (stA Φ.Wg),wr (stA Φ.Wg)]:Array Event),Bk Φ.Wg e:=fun e he=>by
    simp only[List.mem_toArray,List.mem_cons,List.not_mem_nil,or_false]at he;rcases he with rfl | rfl <;> exact bk_cell _ _ rfl
   obtain⟨r,hr⟩:=I.rel k _ hx hNk (by show 5<7;omega);have hr':=hr.book hd g1.frame.fn g1.frame.place hb (Yq (by omega) _ _);by_cases hc:v=0/\wt=1
   ·obtain⟨m',h4⟩:=h2 hc;exact qp C I hw hk hx h1 (y:=⟨4,rk,m',emp⟩) (hAst _) (hw.setSt _) (fun e he=>.inl (hb e he)) (.inl hNk) (by rw[hd];exact .d2 h4) rfl rfl (fun h=>by omega) (by show 4<8;omega) (by show 5<8;omega) (fun _ _=>⟨r,hr'⟩) (WS.wA (by show 4<5;omega)) (.add hwt rfl rfl (by rw[if_pos hc]))
   ·obtain⟨m',h4⟩:=h3 hc;exact qp C I hw hk hx h1 (y:=⟨1,rk,m',emp⟩) (hAst _) (hw.setSt _) (fun e he=>.inl (hb e he)) (.inl hNk) (by rw[hd];exact .quit h4) rfl rfl (fun _=>rfl) (by show 1<8;omega) (by show 5<8;omega) (fun _ _=>⟨r,hr'⟩) (WS.wA (by show 1<5;omega)) (.add hwt rfl rfl (by rw[if_neg hc]))
  ·obtain⟨g',h1,h2⟩:=hst w hJ;exact CQ C I hw hk hx h1 rfl (by show 5<8;omega) (by rw[hd];exact .d1 h2) (Nat.lt_succ_self _) (.inl hNk)
 | @d2 _ rk m hR=>
  have hNk:=young (by simp);rcases hR.cases with hst | ⟨m',rfl,_,hst⟩
  ·obtain⟨rfl,rfl⟩:=F.mid (.inl rfl);obtain⟨_,h0⟩:=hst w hJ;obtain⟨g',h1,m',h2⟩:=h0 hw;have hb:∀e∈(#[rd (stA Φ.Wg)]:Array Event),Bk Φ.Wg e:=fun e he=>by
    simp only[List.mem_toArray,List.mem_singleton]at he;subst he;exact bk_cell _ _ rfl
   obtain⟨r,hr⟩:=I.rel k _ hx hNk (by show 4<7;omega);exact qp C I hw hk hx h1 (y:=⟨3,rk,m',emp⟩) (Aside.refl _ _) hw (fun e he=>.inl (hb e he)) (.inl hNk) (by rw[hd];exact .d3 h2) rfl rfl (fun h=>by omega) (by show 3<8;omega) (by show 4<8;omega) (fun _ _=>⟨r,hr.book hd _ _ hb (PC (by omega) _)⟩) (WS.wA (by show 3<4;omega)) (.seen rfl rfl)
  ·obtain⟨g',h1,h2⟩:=hst w hJ;exact CQ C I hw hk hx h1 rfl (by show 4<8;omega) (by rw[hd];exact .d2 h2) (Nat.lt_succ_self _) (.inl hNk)
 | @d3 _ rk m hR=>
  have hNk:=young (by simp);rcases hR.cases with hst | ⟨m',rfl,_,hst⟩
  ·obtain⟨rfl,rfl⟩:=F.mid (.inr rfl);obtain⟨_,h0⟩:=hst w hJ;obtain⟨g',h1,m',h2⟩:=h0 hw;have hb:∀e∈(#[wr (stA Φ.Wg)]:Array Event),Bk Φ.Wg e:=fun e he=>by
    simp only[List.mem_toArray,List.mem_singleton]at he;subst he;exact bk_cell _ _ rfl
   obtain⟨r,hr⟩:=I.rel k _ hx hNk (by show 3<7;omega);exact qp C I hw hk hx h1 (y:=⟨2,rk,m',emp⟩) (hAst _) (hw.setSt _) (fun e he=>.inl (hb e he)) (.inl hNk) (by rw[hd];exact .d4 h2) rfl rfl (fun h=>by omega) (by show 2<8;omega) (by show 3<8;omega) (fun _ _=>⟨r,hr.book hd _ _ hb (PC (by omega) _)⟩) (WS.wA (by show 2<3;omega)) (.nought rfl rfl)
  ·obtain⟨g',h1,h2⟩:=hst w hJ;exact CQ C I hw hk hx h1 rfl (by show 3<8;omega) (by rw[hd];exact .d3 h2) (Nat.lt_succ_self _) (.inl hNk)
 | @d4 _ rk m hR=>
  have hNk:=young (by simp);rcases hR.cases with hst | ⟨m',rfl,_,hst⟩
  ·obtain⟨rfl,rfl⟩:=F.two rfl;obtain⟨_,hwk,h0⟩:=hst w hJ;obtain⟨g',h1,m',h2⟩:=h0 hw;have hb:=bk_sem (smA Φ.Wg) (Wg:=Φ.Wg) rfl;obtain⟨r,hr⟩:=I.rel k _ hx hNk (by show 2<7;omega);refine qp C I hw hk hx h1 (y:=⟨1,rk,m',emp⟩) (hAsm _) (hw.setSm _) (fun e he=>.inl (hb e he)) (.inl hNk) (by rw[hd];exact .quit h2) rfl rfl (fun _=>rfl) (by show 1<8;omega) (by show 2<8;omega) (fun _ _=>⟨r,hr.book hd _ _ hb (Wo (by omega) _)⟩) (WS.wA (by show 1<2;omega)) (.gone rfl rfl hwk ?_);rcases h2.status with h | h <;> rw[h] <;> exact⟨by simp,by simp⟩
  ·obtain⟨g',h1,h2⟩:=hst w hJ;exact CQ C I hw hk hx h1 rfl (by show 2<8;omega) (by rw[hd];exact .d4 h2) (Nat.lt_succ_self _) (.inl hNk)
 | @quit _ rk m d hQ=>
  cases m with
  | zero=>rw[hQ.1]at hrun;cases hrun
  | succ m=>
   rcases hQ with⟨h1,_⟩ | ⟨_,g',es,hm,h1,h2⟩
   ·rw[h1]at hrun;cases hrun
   ·have ht:∀e∈es,(MemAct.ofEvent e).touch? = none:=fun e he=>by
     rcases bk_of_mute (Wg:=Φ.Wg) (hm e he)with h3 | h3 | ⟨a,q,h3,_⟩
     ·rw[ofEvent_loc_mark h3];rfl
     ·rw[ofEvent_loc_mark h3];rfl
     ·have:=hm e he;rw[h3]at this;simp[Event.mute]at this
    refine qp C I hw hk hx (h1 w) (y:=⟨1,rk,m,emp⟩) (Aside.refl _ _) hw (fun e he=>.inl (bk_of_mute (hm e he))) (.inr ht) (by rw[hd];exact .quit h2) rfl rfl (fun _=>rfl) (by show 1<8;omega) (by show 1<8;omega) (fun hNk _=>?_) (WS.Mq rfl rfl (Nat.lt_succ_self _)) (.same (.inl rfl));obtain⟨r,hr⟩:=I.rel k _ hx hNk (by show 1<7;omega);exact⟨r,hr.book (Wg:=Φ.Wg) hd _ _ (fun e he=>bk_of_mute (hm e he)) fun j e he=>.inl (ht e (Array.mem_of_getElem? he))⟩
end
end Go.Eng
namespace Go.Eng
open Go Go.Conc Go.ConcN
open Go.ConcR (KK wgBlock WgAt stA smA rd wr mk g_of_ofEvents Bk DC0 bk_of_mute ofEvent_loc_mark ofEvent_cell ofEvent_mk deafBehind_cons deafBehind_one)
def V(T:List WS):Nat:=T.countP fun x=>decide (5<=x.stage)
def S0(T:List WS):Prop:=∀(k:Nat) (x:WS),T[k]? = some x->x.stage≠2/\x.stage≠3/\x.stage≠4
def c5(n:Nat):Nat:=if 5<=n then 1 else 0
variable {k:Nat}
theorem Xh{T:List WS}{x y:WS}(hx:T[k]? = some x):V (T.set k y)+c5 x.stage=V T+c5 y.stage:=by
 obtain⟨hlt,rfl⟩:=List.getElem?_eq_some_iff.1 hx;unfold V c5;rw[List.countP_set hlt];have hp:5<=T[k].stage->0<T.countP fun x=>decide (5<=x.stage):=fun h=>List.countP_pos_iff.2 ⟨T[k],List.getElem_mem hlt,by simpa using h⟩
 by_cases h1:5<=T[k].stage <;> by_cases h2:5<=y.stage <;> simp[h1,h2]
 ·have:=hp h1;omega
 ·have:=hp h1;omega
variable {N0 j:Nat}
theorem PD{T:List WS}(hl:T.length=N0+j)(ho:∀(k:Nat) (x:WS),T[k]? = some x->k<N0->x.stage=1):V T<=j:=by
 unfold V;rw[<-List.take_append_drop N0 T,List.countP_append];have h0:(T.take N0).countP (fun x=>decide (5<=x.stage))=0:=by
  refine List.countP_eq_zero.2 fun x hx=>?_
  obtain⟨k,hk⟩:=List.getElem?_of_mem hx;have hlt:k<N0:=by
   have:=(List.getElem?_eq_some_iff.1 hk).1;rw[List.length_take]at this;omega
  rw[List.getElem?_take,if_pos hlt]at hk;simp[ho k x hk hlt]
 have h1:=List.countP_le_length (p:=fun x:WS=>decide (5<=x.stage)) (l:=T.drop N0);rw[List.length_drop]at h1;omega
theorem S1{T:List WS}{x:WS}(hx:T[k]? = some x)(h5:5<=x.stage):1<=V T:=
 List.countP_pos_iff.2 ⟨x,List.mem_of_getElem? hx,by simpa using h5⟩
def Il(T:List WS)(pend:Nat)(st sm:Int):Prop:=st=((V T+pend:Nat):Int)*KK/\sm=0/\S0 T
theorem Il.fits{T:List WS}{pend n N0 j:Nat}{st sm:Int}(M:Il T pend st sm)(hl:T.length=N0+j)(ho:∀(k:Nat) (x:WS),T[k]? = some x->k<N0->x.stage=1)(hb:j+pend<=n)(hn:n<2147483648){x:WS}(hx:T[k]? = some x):Fits x.stage st sm:=by
 obtain⟨rfl,rfl,hm⟩:=M;have h3:=hm k x hx;refine⟨fun h=>?_,fun h=>by omega,fun h=>by omega⟩;have h1:=S1 hx (by omega);have h2:=PD hl ho;refine⟨V T+pend-1,0,by omega,by omega,?_,rfl⟩;simp only[KK];omega
variable {pend:Nat}{P:Program}
theorem Il.Av{T:List WS}{st sm st' sm':Int}(M:Il T pend st sm){x y:WS}(hx:T[k]? = some x){g g':Goroutine}(H:Turn P g g' x.stage y.stage st sm st' sm'):Il (T.set k y) pend st' sm':=by
 obtain⟨rfl,rfl,hm⟩:=M;have h3:=hm k x hx;have hv:=Xh (y:=y) hx;have nm:y.stage≠2/\y.stage≠3/\y.stage≠4->S0 (T.set k y):=fun h i z hz=>by
  rcases yH hz with⟨rfl,rfl⟩ | ⟨_,hz⟩
  ·exact h
  ·exact hm i z hz
 generalize ha:x.stage=a at *;generalize hb:y.stage=b at *;cases H with
 | same h=>
  have:V (T.set k y)=V T:=by
   rcases h with rfl | ⟨h1,h2⟩
   ·omega
   ·simp only[c5,if_pos h1,if_pos h2]at hv;omega
  exact⟨by rw[this],rfl,nm (by omega)⟩
 | @add v wt hwt h1 h2 h3'=>
  subst h1;simp only[KK]at h2;have hwt0:wt=0:=by omega
  subst hwt0;rw[if_neg (by omega)]at h3';subst h3';have hc:V (T.set k y)+1=V T:=by simpa[c5]using hv
  exact⟨by simp only[KK];omega,rfl,nm (by omega)⟩
 | seen h _=>omega
 | nought h _=>omega
 | gone h _ _ _=>omega
inductive Le:List WS->List WS->Prop
 | refl (T:List WS):Le T T
 | step {T' T1 T:List WS}:One WS.lt T' T1->Le T1 T->Le T' T
theorem Le.trans{A B C:List WS}(h:Le A B)(k:Le B C):Le A C:=by
 induction h with
 | refl=>exact k
 | step h1 _ ih=>exact .step h1 (ih k)
def Ju(P:Program)(Good:Machine->Outcome->World->Trace->Prop)(gs:Array Goroutine)(w:World)(sl:Option (Nat×Nat))(t:Trace):Prop:=
 (∃m' ops,runT P (crowd gs w sl) 0=(.next m',ops)/\Runs P Good m' (t++ops)) \/
 (∃o w1 ops,runT P (crowd gs w sl) 0=(.ended o w1,ops)/\∀w2 sl2,Good (crowd gs w2 sl2) o w1 (t++ops))
theorem Av{Good:Machine->Outcome->World->Trace->Prop}{I:List WS->Array Goroutine->World->Trace->Prop}{T0:List WS}
  (hat:∀T gs w t d,I T gs w t->I T gs (w.at d) t)(haw:∀T gs w t,I T gs w t->∀g∈gs,awake g)(hru:∀T gs w t,I T gs w t->∃(i:Nat) (g:Goroutine),gs[i]? = some g/\g.status=.running)
  (hW:∀T gs w t sl k g,I T gs w t->gs[k+1]? = some g->g.status=.running->∃T' gs' w' ops,runT P (crowd gs w sl) (k+1)=(.next (crowd gs' w' sl),ops)/\One WS.lt T' T/\I T' gs' w' (t++ops))
  (hM:∀T gs w t sl g,Le T T0->I T gs w t->gs[0]? = some g->g.status=.running->Ju P Good gs w sl t) :
  ∀T gs w t sl,Le T T0->I T gs w t->Runs P Good (crowd gs w sl) t:=by
 intro T;induction (One.wf WS.wf).apply T with
 | intro T _ ih=>
  intro gs w t sl hle hI;obtain⟨i,g,d,sl',hg,hrun,hstep⟩:=crowd_pick (P:=P) (w:=w) (sl:=sl) (haw _ _ _ _ hI) (hru _ _ _ _ hI);have hI':=hat _ _ _ _ d hI;cases i with
  | zero=>
   rcases hM T gs (w.at d) t sl' g hle hI' hg hrun with⟨m',ops,h1,h2⟩ | ⟨o,w1,ops,h1,h2⟩
   ·exact .step (hstep.trans h1) h2
   ·exact .fin (hstep.trans h1) (h2 w sl)
  | succ k=>
   obtain⟨T',gs',w',ops,h1,h2,h3⟩:=hW T gs (w.at d) t sl' k g hI' hg hrun;exact .step (hstep.trans h1) (ih T' h2 gs' w' (t++ops) sl' (.step h2 hle) h3)
end Go.Eng
namespace Go.Eng
open Go Go.Conc Go.ConcN
open Go.ConcR (KK wgBlock WgAt stA smA rd wr mk g_of_ofEvents Bk DC0 bk_of_mute ofEvent_loc_mark ofEvent_cell ofEvent_mk deafBehind_cons deafBehind_one)
structure Iop(P:Program)(Φ:Ph)(N0 j:Nat)(h:Heap)(w0:World)(M:List WS->Int->Int->Prop)(d0:Nat)(g0:Goroutine)(T:List WS)(gs:Array Goroutine)(w:World)(t:Trace):Prop where
 C:Com w0 Φ.S N0 h T w t
 I:InPh P Φ N0 j h T gs w t
 wg:∃st sm,WgAt Φ.ty Φ.Wg w st sm/\M T st sm
 g0:gs[0]? = some g0
 deaf:Deaf t 0=d0
def Bj(N0 j:Nat)(M:List WS->Int->Int->Prop):Prop:=
 ∀(T:List WS) (k:Nat) (x y:WS) (st sm:Int),T.length=N0+j->(∀(k:Nat) (x:WS),T[k]? = some x->1<=x.stage)->(∀(k:Nat) (x:WS),T[k]? = some x->k<N0->x.stage=1)->T[k]? = some x->M T st sm ->
  Fits x.stage st sm/\∀(P:Program) (g g':Goroutine) (st' sm':Int),Turn P g g' x.stage y.stage st sm st' sm'->M (T.set k y) st' sm'
def xN(P:Program)(gs:Array Goroutine)(g g':Goroutine)(w':World):Array Goroutine:=(gs.map (woken P g g' w')).setIfInBounds 0 g'
section
variable {P:Program}{Φ:Ph}{N0 j:Nat}{h h' : Heap}{T:List WS}{gs:Array Goroutine}{w0 w w' : World}{t:Trace}{es:Array Event}{sl:Option (Nat × Nat)}{st sm:Int}{M M' : List WS -> Int -> Int -> Prop}{d0:Nat}{g0 g1:Goroutine}
  {Good:Machine -> Outcome -> World -> Trace -> Prop}
theorem CR(h0:gs[0]? = some g0)(hs:stepG P true g0 w=.go g1 w' es):runT P (crowd gs w sl) 0=(.next (crowd (xN P gs g0 g1 w') w' sl),MemOp.ofEvents 0 g0.frame.fn g0.frame.place es):=runT_crowd_go h0 hs
theorem Cx(h0:gs[0]? = some g0):(xN P gs g0 g1 w')[0]? = some g1:=get_map_set_same _ _ _ (Array.getElem?_eq_some_iff.1 h0).1
theorem Cy{i:Nat}{o:Goroutine}(hi:gs[i+1]? = some o)(ho:o.status=.running\/o.status=.finished):(xN P gs g0 g1 w')[i+1]? = some o:=by
 unfold xN;rw[get_map_set _ _ _ _ (by omega),hi,Option.map_some,BO ho]
theorem Iop.J(X:Iop P Φ N0 j h w0 M d0 g0 T gs w t):Φ.J w:=let⟨_,_,h,_⟩:=X.wg;X.I.J h
theorem Iop.at(X:Iop P Φ N0 j h w0 M d0 g0 T gs w t)(d:Nat):Iop P Φ N0 j h w0 M d0 g0 T gs (w.at d) t:=⟨X.C.at d,X.I.at d,X.wg,X.g0,X.deaf⟩
theorem Nk(I:InPh P Φ N0 j h T gs w t)(hJ:Φ.J w)(h0:gs[0]? = some g0)(hg:g0.status=.running\/g0.status=.finished\/g0.status=.blocked):∀g∈gs,awake g:=by
 intro g hg2 tm;obtain⟨i,hi⟩:=Array.mem_iff_getElem?.1 hg2;cases i with
 | zero=>
  rw[h0]at hi;cases hi
  rcases hg with h | h | h <;> rw[h] <;> simp
 | succ i=>
  have hlt:i<T.length:=by
   have:=(Array.getElem?_eq_some_iff.1 hi).1;rw[I.gsz]at this;omega
  obtain⟨g',hg',hs⟩:=I.sit i _ (List.getElem?_eq_getElem hlt);rw[hi]at hg';cases hg'
  rcases hs.status hJ with h | ⟨h,_⟩ <;> rw[h] <;> simp
theorem Iop.worker(X:Iop P Φ N0 j h w0 M d0 g0 T gs w t)(hn:Bj N0 j M)(hr:g0.status=.running){k:Nat}{g:Goroutine}(hk:gs[k+1]? = some g)(hrun:g.status=.running) :
  ∃T' gs' w' ops,runT P (crowd gs w sl) (k+1)=(.next (crowd gs' w' sl),ops)/\One WS.lt T' T/\Iop P Φ N0 j h w0 M d0 g0 T' gs' w' (t++ops):=by
 obtain⟨st,sm,hw,hM⟩:=X.wg;have hlt:k<T.length:=by
  have:=(Array.getElem?_eq_some_iff.1 hk).1;rw[X.I.gsz]at this;omega
 have hx:=List.getElem?_eq_getElem hlt;have hst:∀(k:Nat) (x:WS),T[k]? = some x->1<=x.stage:=fun k x hx=>by
  obtain⟨g,_,hs⟩:=X.I.sit k x hx;generalize Deaf t (k+1)=d at hs;cases hs <;> simp
 obtain⟨g',w',es,y,st',sm',h1,h2,h3,h4,h5,h6⟩:=Xg X.C X.I hw hk hx hrun (hn T k _ ⟨0,.leaf,0,emp⟩ st sm X.I.len hst X.I.old hx hM).1;refine⟨_,_,w',_,P8 hk h1,One.set hx h2,h3,h4,⟨st',sm',h5,(hn T k _ y st sm X.I.len hst X.I.old hx hM).2 _ _ _ _ _ h6⟩,?_,?_⟩
 ·rw[DF X.g0,BO (.inl hr)]
 ·rw[Deaf_other t (by omega) _ g_of_ofEvents];exact X.deaf
theorem InPh.first(I:InPh P Φ N0 j h T gs w t)(hJ:Φ.J w)(h0:gs[0]? = some g0)(fn:FuncId)(pos:String)(hes:∀e∈es,∀b,(MemAct.ofEvent e).touch? = some b->∃ad,b.loc=.cell ad/\(ad.block=Φ.Wg->b.kind ≠ .plain)/\ad.block≠Φ.C)
  (hlt:w.heap.size<=w'.heap.size)(hC:w'.heap[Φ.C]? = w.heap[Φ.C]?)(hno:h' Φ.Wg=none/\h' Φ.C=none):InPh P Φ N0 j h' T (xN P gs g0 g1 w') w' (t++MemOp.ofEvents 0 fn pos es):=by
 have hg:∀op∈MemOp.ofEvents 0 fn pos es,op.g=0:=g_of_ofEvents;have own:∀ {i:Nat} {op:MemOp},op∈MemOp.ofEvents 0 fn pos es->(t++MemOp.ofEvents 0 fn pos es)[i]? = some op->(t++MemOp.ofEvents 0 fn pos es).g? i=some 0:=fun h1 h2=>by simp[Trace.g?,h2,hg _ h1]
 have evt:∀ {op:MemOp} {b:Touch},op∈MemOp.ofEvents 0 fn pos es->op.act.touch? = some b->∃ad,b.loc=.cell ad/\(ad.block=Φ.Wg->b.kind ≠ .plain)/\ad.block≠Φ.C:=fun hop hb=>by
  obtain⟨e,he,rfl⟩:=yK hop;exact hes e he _ hb
 refine⟨I.len,I.jn,by rw[<-I.gsz];simp[xN],?_,I.old,I.CW,hno,I.xno,⟨by have:=I.lt;omega,by have:=I.lt;omega⟩,?_,?_,?_,?_,?_,?_,?_⟩
 ·intro i z hz;obtain⟨o,ho,hs⟩:=I.sit i z hz;exact⟨o,Cy ho ((hs.status hJ).imp id fun h=>h.1),by rw[Deaf_other t (by omega) _ hg];exact hs⟩
 ·obtain⟨cs,hc1,hc2⟩:=I.pay;exact⟨cs,hC.trans hc1,hc2⟩
 ·intro i a ad ha hl hb;rcases yu ha with⟨hlt,h1⟩ | ⟨op,h1,h2,h3⟩
  ·rcases I.quiet i a ad h1 hl hb with⟨h4,h5⟩ | h4
   ·exact .inl ⟨h4,fun h=>by rw[g?_old hlt];exact h5 h⟩
   ·exact .inr fun k hk=>jh (h4 k hk)
  ·obtain⟨ad2,e1,e2,_⟩:=evt h1 h2;rw[hl]at e1;cases e1
   exact .inl ⟨e2 hb,fun _=>own h1 h3⟩
 ·intro off i a ho ha hl;rcases yu ha with⟨hlt,h1⟩ | ⟨op,h1,h2,h3⟩
  ·exact jh (I.cellF off i a ho h1 hl)
  ·have:=knows_own h3;rwa[hg op h1]at this
 ·intro i z hz hz8 q a ha hl;rcases yu ha with⟨hlt,h1⟩ | ⟨op,h1,h2,h3⟩
  ·exact jh (I.cellW i z hz hz8 q a h1 hl)
  ·obtain⟨ad2,e1,_,e2⟩:=evt h1 h2;rw[hl]at e1;cases e1
   exact absurd rfl e2
 ·intro i a ad ha hl hb;rcases yu ha with⟨hlt,h1⟩ | ⟨op,h1,h2,h3⟩
  ·rcases I.cC i a ad h1 hl hb with h4 | ⟨h4,q,h5,h6⟩
   ·exact .inl (jh h4)
   ·exact .inr ⟨h4,q,h5,by rw[g?_old hlt];exact h6⟩
  ·have:=knows_own h3;rw[hg op h1]at this;exact .inl this
 ·intro i z hz hi hs;rw[Nj hC];exact I.vals i z hz hi hs
 ·intro i z hz hi hs;obtain⟨r,hr⟩:=I.rel i z hz hi hs;exact⟨r,hr.appOther hg (by omega)⟩
theorem Iop.book(X:Iop P Φ N0 j h w0 M d0 g0 T gs w t)(hA:Aside Φ.Wg w w')(hw':WgAt Φ.ty Φ.Wg w' st sm)(hM:M' T st sm)
  (hes:∀e∈es,Bk Φ.Wg e\/e=Go.ConcR.mk (.read (smA Φ.Wg))\/e=Go.ConcR.mk (.write (smA Φ.Wg))\/e=Go.ConcR.mk (.acquire (stA Φ.Wg)))(fn:FuncId)(pos:String) :
  Iop P Φ N0 j h w0 M' (deafBehind d0 es) g1 T (xN P gs g0 g1 w') w' (t++MemOp.ofEvents 0 fn pos es):=by
 have tch:∀e∈es,∀b,(MemAct.ofEvent e).touch? = some b->∃ad,b.loc=.cell ad/\ad.block=Φ.Wg/\b.kind ≠ .plain:=by
  intro e he b hb;rcases hes e he with h1 | rfl | rfl | rfl
  ·rcases h1 with h1 | h1 | ⟨a,q,rfl,ha⟩
   ·rw[ofEvent_loc_mark h1]at hb;cases hb
   ·rw[ofEvent_loc_mark h1]at hb;cases hb
   ·rw[ofEvent_cell]at hb;simp only[MemAct.touch?,Option.some.injEq]at hb;subst hb;exact⟨a,rfl,ha,by simp⟩
  ·simp only[ofEvent_mk,MemAct.touch?,Option.some.injEq]at hb;subst hb;exact⟨_,rfl,rfl,by simp⟩
  ·simp only[ofEvent_mk,MemAct.touch?,Option.some.injEq]at hb;subst hb;exact⟨_,rfl,rfl,by simp⟩
  ·cases hb
 have said_of:∀(x:Touch.Kind),x ≠ .plain->x=.atomic\/x=.said:=fun x hx=>by cases x <;> simp_all
 refine⟨?_,X.I.first X.J X.g0 fn pos (fun e he b hb=>?_) (by rw[hA.size];exact Nat.le_refl _) (hA.block _ X.I.CW) X.I.hno,⟨st,sm,hw',hM⟩,Cx X.g0,by rw[Deaf_own,X.deaf]⟩
 ·refine X.C.other (g:=0) (Nat.zero_le _) g_of_ofEvents rfl (fun i y hy=>⟨y,hy,fun b _=>rfl⟩) ⟨hA.os,hA.tape,hA.output⟩ hA.size (fun b hb=>?_) (fun op hop b hb=>?_) (fun op hop a hr=>?_) (.inl rfl)
  ·refine hA.block b fun e=>?_
   subst e;rcases hb with hb | ⟨i,z,hz,hb⟩
   ·exact hb X.I.hno.1
   ·exact hb (X.I.xno i z hz).1
  ·obtain⟨e,he,rfl⟩:=yK hop;obtain⟨ad,h1,h2,h3⟩:=tch e he b hb;refine⟨ad,h1,by rw[h2];exact X.I.lt.1,by rw[h2];exact X.I.hno.1,fun i z hz=>by rw[h2];exact(X.I.xno i z hz).1,fun said i a ha hc=>?_⟩;rcases X.I.quiet i a ad ha (hc.1.trans h1) h2 with⟨h4,h5⟩ | h4
   ·rcases hc.2.2.2 with h6 | h6 | ⟨_,h6,_⟩
    ·exact absurd h6 h4
    ·exact absurd h6 h3
    ·obtain⟨op,ho,_⟩:=touch_of ha;have:=knows_own ho;have e0:=h5 h6;simp only[Trace.g?,ho,Option.map_some,Option.some.injEq]at e0;rwa[e0]at this
   ·exact h4 0 (.inl rfl)
  ·obtain⟨e,he,rfl⟩:=yK hop;simp only at hr;rcases hes e he with h1 | rfl | rfl | rfl
   ·rcases h1 with h1 | h1 | ⟨a,q,rfl,ha⟩
    ·rw[ofEvent_loc_mark h1]at hr;cases hr
    ·rw[ofEvent_loc_mark h1]at hr;cases hr
    ·rw[ofEvent_cell]at hr;cases hr
   ·cases hr
   ·cases hr
   ·cases hr
 ·obtain⟨ad,h1,h2,h3⟩:=tch e he b hb;exact⟨ad,h1,fun _=>h3,fun e=>X.I.CW (e.symm.trans h2)⟩
theorem Iop.ym(X:Iop P Φ N0 j h w0 M d0 g0 T gs w t)(fn:FuncId)(pos:String):Iop P Φ N0 j h w0 M d0 g1 T (xN P gs g0 g1 w) w (t++MemOp.ofEvents 0 fn pos #[]):=by
 obtain⟨st,sm,hw,hM⟩:=X.wg;exact X.book (es:=#[]) (Aside.refl _ _) hw hM (fun e he=>by simp at he) fn pos
theorem Iop.S3(X:Iop P Φ N0 j h w0 M d0 g0 T gs w t)(K:Kept Φ.S h h' w w')(hes:∀e∈es,Ai Φ.S h w w' e)(fn:FuncId)(pos:String) :
  Iop P Φ N0 j h' w0 M d0 g1 T (xN P gs g0 g1 w') w' (t++MemOp.ofEvents 0 fn pos es):=by
 obtain⟨st,sm,hw,hM⟩:=X.wg;have hW:=K.old Φ.Wg X.I.lt.1 X.I.hno.1;have hC:=K.old Φ.C X.I.lt.2 X.I.hno.2;refine⟨X.C.main K hes fn pos,X.I.first X.J X.g0 fn pos (fun e he b hb=>?_) K.size hC.1 ⟨hW.2,hC.2⟩,⟨st,sm,hW.1.trans hw,hM⟩,Cx X.g0,?_⟩
 ·have hop:({ g:=0,fn:=0,pos := "",act:=.ofEvent e }:MemOp)∈MemOp.ofEvents 0 0 "" #[e]:=by simp[MemOp.ofEvents]
  obtain⟨ad,h1,h2,h3,_,_⟩:=jD (S:=Φ.S) (h:=h) (w:=w) (w':=w') (es:=#[e]) (fun e' he'=>by simp at he';rw[he'];exact hes e he) hop hb;refine⟨ad,h1,fun e1=>?_,fun e1=>?_⟩
  ·rw[e1]at h3;rcases h3 with h3 | h3
   ·exact absurd X.I.hno.1 h3
   ·have:=X.I.lt.1;omega
  ·rw[e1]at h3;rcases h3 with h3 | h3
   ·exact absurd X.I.hno.2 h3
   ·have:=X.I.lt.2;omega
 ·rw[Deaf_own,X.deaf];refine deafBehind_idle (fun e he=>?_) _;rcases hes e he with⟨a,h1,_⟩ | ⟨m,hm,rfl⟩
  ·rw[h1];exact⟨by simp,by simp⟩
  ·cases m <;> simp[Quiet]at hm ⊢
theorem Iop.Av(hn:Bj N0 j M)(hr:g0.status=.running)
  (hM:∀T' gs w t sl,Le T' T->Iop P Φ N0 j h w0 M d0 g0 T' gs w t->Ju P Good gs w sl t)(X:Iop P Φ N0 j h w0 M d0 g0 T gs w t)(sl:Option (Nat×Nat)):Runs P Good (crowd gs w sl) t:=
 Eng.Av (I:=fun T gs w t=>Iop P Φ N0 j h w0 M d0 g0 T gs w t) (T0:=T) (fun T gs w t d X=>X.at d) (fun T gs w t X=>Nk X.I X.J X.g0 (.inl hr)) (fun T gs w t X=>⟨0,g0,X.g0,hr⟩)
  (fun T gs w t sl k g X hk hg=>X.worker hn hr hk hg) (fun T' gs w t sl g hle X _ _=>hM T' gs w t sl hle X) T gs w t sl (.refl T) X
theorem Iop.sil(hn:Bj N0 j M){Stop:Goroutine->World->Prop}:∀(m:Nat) (g0:Goroutine) (T:List WS) (gs:Array Goroutine) (w:World) (t:Trace) (sl:Option (Nat×Nat)),Sil P true Φ.J Stop m g0->Iop P Φ N0 j h w0 M d0 g0 T gs w t ->
  (∀g' T' gs' w' t' sl',Le T' T->(∀w,Φ.J w->Stop g' w)->Iop P Φ N0 j h w0 M d0 g' T' gs' w' t'->Runs P Good (crowd gs' w' sl') t')->Runs P Good (crowd gs w sl) t:=by
 intro m;induction m with
 | zero=>
  intro g0 T gs w t sl H X K;rcases H.cases with h | ⟨k,h,_⟩
  ·exact K g0 T gs w t sl (.refl T) h X
  ·omega
 | succ m ih=>
  intro g0 T gs w t sl H X K;rcases H.cases with h | ⟨k,h,hr,hst⟩
  ·exact K g0 T gs w t sl (.refl T) h X
  ·obtain rfl:k=m:=by omega
   refine X.Av hn hr (fun T' gs w t sl hle X=>?_) sl;obtain⟨g',h1,h2⟩:=hst w X.J;exact .inl ⟨_,_,CR X.g0 h1,ih g' T' _ w _ sl h2 (X.ym _ _) fun g2 T2 gs2 w2 t2 sl2 hl=>K g2 T2 gs2 w2 t2 sl2 (hl.trans hle)⟩
theorem Iop.safe(hS:∀fr cs h Q,¬Φ.S.big fr cs h Q)(hn:Bj N0 j M){Post:Frame->List Frame->Heap->Prop}{fr:Frame}{cs:List Frame}(H:Safe P Φ.S Post fr cs h):∀(T:List WS) (gs:Array Goroutine) (w:World) (t:Trace) (sl:Option (Nat×Nat)),
  Iop P Φ N0 j h w0 M d0 (gor fr cs) T gs w t ->
  (∀fr' cs' h' T' gs' w' t' sl',Post fr' cs' h'->(∀b,Φ.S b->h' b=h b)->Iop P Φ N0 j h' w0 M d0 (gor fr' cs') T' gs' w' t'->Runs P Good (crowd gs' w' sl') t')->Runs P Good (crowd gs w sl) t:=by
 induction H with
 | done p=>exact fun T gs w t sl X K=>K _ _ _ T gs w t sl p (fun _ _=>rfl) X
 | step fr' cs' w' es h' hs _ ih=>
  intro T gs w t sl X K;refine X.Av hn rfl (fun T' gs w t sl _ X=>?_) sl;obtain⟨h1,h2,h3⟩:=hs w true X.C.has;exact .inl ⟨_,_,CR X.g0 h1,ih w true X.C.has T' _ _ _ sl (X.S3 h2 h3 _ _) fun fr2 cs2 h2' T2 gs2 w2 t2 sl2 p hro=>K fr2 cs2 h2' T2 gs2 w2 t2 sl2 p fun b hb=>(hro b hb).trans (h2.ro b hb)⟩
 | big h0 f Q e ha hb _ _=>exact absurd hb (hS _ _ _ _)
end
end Go.Eng
namespace Go.Eng
open Go Go.Conc Go.ConcN
open Go.ConcR (KK wgBlock WgAt stA smA rd wr mk g_of_ofEvents Bk DC0 bk_of_mute ofEvent_loc_mark ofEvent_cell ofEvent_mk deafBehind_cons deafBehind_one)
variable {S:Shared}{k n:Nat}
section
variable {P:Program}{Φ:Ph}{N0 j:Nat}{h h' h1 hc:Heap}{T:List WS}{gs:Array Goroutine}{w0 w w' : World}{t:Trace}{es:Array Event}{sl:Option (Nat × Nat)}{st sm:Int}{M M' : List WS -> Int -> Int -> Prop}{d0:Nat}{g0 g1:Goroutine}
  {Good:Machine -> Outcome -> World -> Trace -> Prop}
theorem jM{z y:WS}{i:Nat}(hi:(T++[z])[i]? = some y):T[i]? = some y\/(i=T.length/\y=z):=by
 rcases Nat.lt_or_ge i T.length with hlt | hge
 ·rw[List.getElem?_append_left hlt]at hi;exact .inl hi
 ·rw[List.getElem?_append_right hge]at hi;cases e:i-T.length with
  | zero=>rw[e]at hi;simp at hi;exact .inr ⟨by omega,hi.symm⟩
  | succ n=>rw[e]at hi;simp at hi
theorem Com.Im(C:Com w0 S N0 h T w t):Deaf t (T.length+1)=0:=Deaf_absent fun i op hi e=>by have:=C.gsb i op hi;omega
theorem HC{x y:MemOp}(hx:x.g=0/\x.act=.go k)(hy:y.g=k/\y.act=.start):∀op∈(#[x,y]:Array MemOp),op.act.touch? = none/\(∀m,op.act ≠ .mark m)/\(op.g=0\/op.g=k):=by
 intro op hop;simp only[List.mem_toArray,List.mem_cons,List.not_mem_nil,or_false]at hop;rcases hop with rfl | rfl
 ·rw[hx.2];exact⟨rfl,fun m=>by simp,.inl hx.1⟩
 ·rw[hy.2];exact⟨rfl,fun m=>by simp,.inr hy.1⟩
theorem Com.spawn(C:Com w0 S N0 h T w t)(hN:N0<=T.length)(s1:Sub h1 h)(sc:Sub hc h)(hap:∀b,¬S b->hc b≠none->h1 b=none)(hS:∀b,S b->h1 b=h b){x y:MemOp}(hx:x.g=0/\x.act=.go (T.length+1))(hy:y.g=T.length+1/\y.act=.start)
  (h0:Deaf t 0=0){z:WS}(hz:z.heap=hc):Com w0 S N0 h1 (T++[z]) w (t++#[x,y]):=by
 have tw:=HC hx hy;have oldt:∀ {i:Nat} {a:Touch},touchAt (t++#[x,y]) i=some a->i<t.size/\touchAt t i=some a:=fun ha=>by
  rcases yu ha with h | ⟨op,h1,h2,_⟩
  ·exact h
  ·rw[(tw op h1).1]at h2;cases h2
 have hn1:∀ {b:Nat},h b=none->h1 b=none:=fun hb=>by
  cases e:h1 _ with
  | none=>rfl
  | some o=>rw[s1 _ o e]at hb;cases hb
 have hnc:∀ {b:Nat},h b=none->hc b=none:=fun hb=>by
  cases e:hc _ with
  | none=>rfl
  | some o=>rw[sc _ o e]at hb;cases hb
 refine⟨C.env,C.has.sub s1,fun b hb hn=>C.inv b hb (by rw[<-hS b hb];exact hn),?_,?_,?_,?_,?_,?_,?_,?_,?_,?_⟩
 ·intro i u hu;rcases jM hu with hu | ⟨_,rfl⟩
  ·exact C.hasW i u hu
  ·rw[hz];exact C.has.sub sc
 ·intro i u hu b hb hn;rcases jM hu with hu | ⟨_,rfl⟩
  ·exact hn1 (C.apart i u hu b hb hn)
  ·rw[hz]at hn;exact hap b hb hn
 ·intro i q u v hu hv hne b hb hn;rcases jM hu with hu' | ⟨rfl,rfl⟩
  ·rcases jM hv with hv | ⟨_,rfl⟩
   ·exact C.apart2 i q u v hu' hv hne b hb hn
   ·rw[hz];exact hnc (C.apart i u hu' b hb hn)
  ·rcases jM hv with hv | ⟨rfl,_⟩
   ·cases e:v.heap b with
    | none=>rfl
    | some o=>
     rw[hz]at hn;exact absurd (hnc (C.apart q v hv b hb (by rw[e];simp))) hn
   ·exact absurd rfl hne
 ·intro said;have e:t++#[x,y]=(t++#[x])++#[y]:=by apply Array.ext';simp
  rw[e];refine noRace_append (g:=T.length+1) (noRace_append (g:=0) (C.nr said) (fun op hop=>by simp at hop;rw[hop];exact hx.1) (fun i a _ op hop b hb _=>?_)) (fun op hop=>by simp at hop;rw[hop];exact hy.1) (fun i a _ op hop b hb _=>?_)
  ·rw[(tw op (by simp at hop ⊢;exact .inl hop)).1]at hb;cases hb
  ·rw[(tw op (by simp at hop ⊢;exact .inr hop)).1]at hb;cases hb
 ·refine Ij (fun i op hi=>?_) (fun op hop=>?_)
  ·rw[List.length_append];have:=C.gsb i op hi;omega
  ·rw[List.length_append];rcases(tw op hop).2.2 with e | e <;> rw[e] <;> simp
 ·intro i a ha;obtain⟨_,h⟩:=oldt ha;exact C.lo i a h
 ·exact Ej C.norel fun op hop a=>(tw op hop).2.1 _
 ·intro i a ad ha hl hb;obtain⟨hlt,h2⟩:=oldt ha;rcases C.kn i a ad h2 hl (fun e=>hb (hn1 e))with h4 | ⟨h4,h5,h6,q,h7,h8⟩
  ·exact .inl (jh h4)
  ·exact .inr ⟨h4,h5,h6,q,h7,by rw[g?_old hlt];exact h8⟩
 ·intro k u hu i a ad ha hl hb hcc;obtain⟨hlt,h2⟩:=oldt ha;rcases jM hu with hu | ⟨rfl,rfl⟩
  ·exact jh (C.knW k u hu i a ad h2 hl hb hcc)
  ·rw[hz]at hb;rcases C.kn i a ad h2 hl (fun e=>hb (hnc e))with h4 | ⟨h4,h5,_⟩
   ·exact fork_knows hx hy h0 C.Im h4
   ·rcases hcc with hcc | hcc
    ·exact absurd h4 hcc
    ·rw[h5]at hcc;cases hcc
 ·exact KW C.ho fun op hop=>.inr (.inr (tw op hop).1)
theorem InPh.spawn(I:InPh P Φ N0 j h T gs w t)(C:Com w0 Φ.S N0 h T w t)(s1:Sub h1 h)(sc:Sub hc h)(hj:j<Φ.n)(h0:gs[0]? = some g0){x y:MemOp}(hx:x.g=0/\x.act=.go (T.length+1))(hy:y.g=T.length+1/\y.act=.start)(hd:Deaf t 0=0)
  {fr:Frame}{cs:List Frame}{rk:Rk}(hR:Mo P Φ.S false Φ.J (Ik P Φ j) rk fr cs hc) :
  InPh P Φ N0 (j+1) h1 (T++[⟨8,rk,0,hc⟩]) ((gs.setIfInBounds 0 g1).push (gor fr cs)) w (t++#[x,y]):=by
 have tw:=HC hx hy;have hl:=I.len;have oldt:∀ {i:Nat} {a:Touch},touchAt (t++#[x,y]) i=some a->i<t.size/\touchAt t i=some a:=fun ha=>by
  rcases yu ha with h | ⟨op,h1,h2,_⟩
  ·exact h
  ·rw[(tw op h1).1]at h2;cases h2
 have still:∀g,Deaf (t++#[x,y]) g=Deaf t g:=fun g=>Deaf_still t g _ fun op hop=>⟨(tw op hop).2.1 _,(tw op hop).2.1 _⟩
 have hn1:∀ {b:Nat},h b=none->h1 b=none:=fun hb=>by
  cases e:h1 _ with
  | none=>rfl
  | some o=>rw[s1 _ o e]at hb;cases hb
 have hnc:∀ {b:Nat},h b=none->hc b=none:=fun hb=>by
  cases e:hc _ with
  | none=>rfl
  | some o=>rw[sc _ o e]at hb;cases hb
 have hgz:gs.size=T.length+1:=I.gsz;refine⟨by simp[hl];omega,by omega,by simp[hgz],?_,?_,I.CW,⟨hn1 I.hno.1,hn1 I.hno.2⟩,?_,I.lt,I.pay,?_,?_,?_,?_,?_,?_⟩
 ·intro k u hu;rcases jM hu with hu | ⟨rfl,rfl⟩
  ·obtain⟨o,ho,hs⟩:=I.sit k u hu;refine⟨o,?_,by rw[still];exact hs⟩;have hlt:=(Array.getElem?_eq_some_iff.1 ho).1;rw[Array.getElem?_push,if_neg (by rw[Array.size_setIfInBounds];omega),Array.getElem?_setIfInBounds_ne (by omega)];exact ho
  ·refine⟨gor fr cs,?_,?_⟩
   ·rw[Array.getElem?_push,if_pos (by rw[Array.size_setIfInBounds];omega)]
   ·rw[still,C.Im,show T.length-N0=j by omega];exact .put hR
 ·intro k u hu hk;rcases jM hu with hu | ⟨rfl,_⟩
  ·exact I.old k u hu hk
  ·omega
 ·intro k u hu;rcases jM hu with hu | ⟨_,rfl⟩
  ·exact I.xno k u hu
  ·exact⟨hnc I.hno.1,hnc I.hno.2⟩
 ·intro i a ad ha hl2 hb;obtain⟨hlt,h2⟩:=oldt ha;rcases I.quiet i a ad h2 hl2 hb with⟨h3,h4⟩ | h3
  ·exact .inl ⟨h3,fun e=>by rw[g?_old hlt];exact h4 e⟩
  ·refine .inr fun k hk=>?_
   by_cases e:k=T.length+1
   ·subst e;exact fork_knows hx hy hd C.Im (h3 0 (.inl rfl))
   ·exact jh (h3 k (by omega))
 ·intro off i a ho ha hl2;obtain⟨_,h2⟩:=oldt ha;exact jh (I.cellF off i a (by omega) h2 hl2)
 ·intro k u hu h8 i a ha hl2;obtain⟨_,h2⟩:=oldt ha;rcases jM hu with hu | ⟨rfl,rfl⟩
  ·exact jh (I.cellW k u hu h8 i a h2 hl2)
  ·exact fork_knows hx hy hd C.Im (I.cellF (T.length-N0) i a (by omega) h2 hl2)
 ·intro i a ad ha hl2 hb;obtain⟨hlt,h2⟩:=oldt ha;rcases I.cC i a ad h2 hl2 hb with h3 | ⟨h3,q,h4,h5⟩
  ·exact .inl (jh h3)
  ·exact .inr ⟨h3,q,h4,by rw[g?_old hlt];exact h5⟩
 ·intro k u hu hk hs;rcases jM hu with hu | ⟨_,rfl⟩
  ·exact I.vals k u hu hk hs
  ·simp at hs
 ·intro k u hu hk hs;rcases jM hu with hu | ⟨_,rfl⟩
  ·obtain⟨r,hr⟩:=I.rel k u hu hk hs;have hku:=(List.getElem?_eq_some_iff.1 hu).1;refine⟨r,hr.appNot fun op hop=>?_⟩;rcases(tw op hop).2.2 with e | e <;> omega
  ·simp at hs
def MO(q:Prop)(pend:Nat)(T:List WS)(st sm:Int):Prop:=Il T pend st sm/\(q->∀(k:Nat) (x:WS),T[k]? = some x->x.stage=1)
theorem MO.shut{q:Prop}{pend n:Nat}(hb:j+pend<=n)(hn:n<2147483648):Bj N0 j (MO q pend):=by
 intro T k x y st sm hl hs ho hx ⟨H,hq⟩;refine⟨H.fits hl ho hb hn hx,fun P g g' st' sm' ht=>⟨H.Av hx ht,fun hqq i z hz=>?_⟩⟩;rcases yH hz with⟨rfl,rfl⟩ | ⟨_,hz⟩
 ·have h1:=hq hqq _ _ hx;have h2:=(H.Av hx ht).2.2;cases ht with
  | same h=>omega
  | add _ h _ _=>omega
  | seen h _=>omega
  | nought h _=>omega
  | gone h _ _ _=>omega
 ·exact hq hqq i z hz
def R1(T:List WS)(st sm:Int):Prop:=st=((V T:Nat):Int)*KK+1/\sm=0/\1<=V T/\S0 T
def R2(T:List WS)(st sm:Int):Prop:=∃(L:Nat) (x:WS),T[L]? = some x/\(x.stage=2\/x.stage=3\/x.stage=4)/\(∀(k:Nat) (y:WS),T[k]? = some y->k≠L->y.stage=1)/\st=(if x.stage=2 then 0 else 1)/\sm=0
def R3(T:List WS)(st sm:Int):Prop:=(∀(k:Nat) (x:WS),T[k]? = some x->x.stage=1)/\st=0/\sm=1
def MR(T:List WS)(st sm:Int):Prop:=R1 T st sm\/R2 T st sm\/R3 T st sm
theorem La(hjn:j<=n)(hn:n<2147483648){x y:WS}(hl:T.length=N0+j)(hs:∀(k:Nat) (x:WS),T[k]? = some x->1<=x.stage)(ho:∀(k:Nat) (x:WS),T[k]? = some x->k<N0->x.stage=1)(hx:T[k]? = some x)
  (H:R1 T st sm\/R2 T st sm):Fits x.stage st sm/\∀(P:Program) (g g':Goroutine) (st' sm':Int),Turn P g g' x.stage y.stage st sm st' sm' ->
   (R1 (T.set k y) st' sm'\/R2 (T.set k y) st' sm')\/(R3 (T.set k y) st' sm'/\mayWake P g=true/\g'.status ≠ .blocked/\g'.status ≠ .waiting):=by
 have setAll:∀ {Pr:WS->Prop},Pr y->(∀(i:Nat) (z:WS),i≠k->T[i]? = some z->Pr z)->∀(i:Nat) (z:WS),(T.set k y)[i]? = some z->Pr z:=fun hy h i z hz=>by
  rcases yH hz with⟨rfl,rfl⟩ | ⟨hne,hz⟩
  ·exact hy
  ·exact h i z (Ne.symm hne) hz
 have hv:=Xh (y:=y) hx;have hVj:=PD hl ho;have hkl:k<T.length:=(List.getElem?_eq_some_iff.1 hx).1;rcases H with⟨rfl,rfl,hV,hm⟩ | ⟨L,xl,hL,h234,hoth,rfl,rfl⟩
 ·have h3:=hm k x hx;refine⟨⟨fun h=>⟨V T-1,1,by omega,by omega,by simp only[KK];omega,rfl⟩,fun h=>by omega,fun h=>by omega⟩,fun P g g' st' sm' ht=>?_⟩;generalize ha:x.stage=a at *;generalize hb:y.stage=b at *;cases ht with
  | same h=>
   have e:V (T.set k y)=V T:=by
    rcases h with rfl | ⟨h1,h2⟩
    ·omega
    ·simp only[c5,if_pos h1,if_pos h2]at hv;omega
   exact .inl (.inl ⟨by rw[e],rfl,by omega,setAll (by omega) fun i z _ hz=>hm i z hz⟩)
  | @add v wt hwt h1 h2 h3'=>
   subst h1;simp only[KK]at h2;have hw1:wt=1:=by omega
   subst hw1;have hc:∀b',b=b'->b'<5->V (T.set k y)+1=V T:=fun b' e hlt=>by
    subst e;simp only[c5,if_pos (show 5<=5 by omega),if_neg (show ¬5<=b by omega)]at hv;omega
   by_cases hv0:v=0
   ·subst hv0;rw[if_pos ⟨rfl,rfl⟩]at h3';have hc':=hc 4 h3' (by omega);refine .inl (.inr ⟨k,y,List.getElem?_set_self hkl,.inr (.inr (by omega)),fun i z hz hik=>?_,by rw[if_neg (by omega)];simp[KK],rfl⟩);rcases yH hz with⟨rfl,_⟩ | ⟨_,hz⟩
    ·exact absurd rfl hik
    ·have hz1:=hs i z hz;have hz2:=hm i z hz;have hlt5:¬5<=z.stage:=fun h5=>by
      have:(T.set k y)[i]? = some z:=by rw[List.getElem?_set_ne (Ne.symm hik)];exact hz
      have:=S1 this h5;omega
     omega
   ·rw[if_neg (fun h=>hv0 h.1)]at h3';have hc':=hc 1 h3' (by omega);exact .inl (.inl ⟨by simp only[KK];omega,rfl,by omega,setAll (by omega) fun i z _ hz=>hm i z hz⟩)
  | seen h _=>omega
  | nought h _=>omega
  | gone h _ _ _=>omega
 ·by_cases hk:k=L
  ·subst hk;rw[hx]at hL;cases hL
   refine⟨⟨fun h=>by omega,fun h=>⟨by rw[if_neg (by omega)],rfl⟩,fun h=>⟨by rw[if_pos h],rfl⟩⟩,fun P g g' st' sm' ht=>?_⟩;have mid:y.stage=2\/y.stage=3\/y.stage=4->∀s,s=(if y.stage=2 then(0:Int)else 1)->R2 (T.set k y) s 0:=fun h s hs2=>⟨k,y,List.getElem?_set_self hkl,h,fun i z hz hik=>by
    rcases yH hz with⟨rfl,_⟩ | ⟨_,hz⟩
    ·exact absurd rfl hik
    ·exact hoth i z hz hik,hs2,rfl⟩
   generalize ha:x.stage=a at *;generalize hb:y.stage=b at *;cases ht with
   | same h=>
    have e:b=a:=by omega
    subst e;exact .inl (.inr (by have:=mid (by omega) _ rfl;simpa using this))
   | add _ h _ _=>omega
   | seen h1 h2=>subst h1 h2;exact .inl (.inr (mid (by omega) _ rfl))
   | nought h1 h2=>subst h1 h2;exact .inl (.inr (mid (by omega) _ rfl))
   | gone h1 h2 h3 h4=>
    subst h1 h2;exact .inr ⟨⟨setAll hb fun i z hik hz=>hoth i z hz hik,rfl,rfl⟩,h3,h4⟩
  ·have h1:=hoth k x hx hk;refine⟨⟨fun h=>by omega,fun h=>by omega,fun h=>by omega⟩,fun P g g' st' sm' ht=>?_⟩;have hb1:y.stage=1/\st'=(if xl.stage=2 then(0:Int)else 1)/\sm'=0:=by
    generalize y.stage=b at *;generalize x.stage=a at *;generalize (if xl.stage=2 then(0:Int)else 1)=q at *;cases ht with
    | same h=>exact⟨by omega,rfl,rfl⟩
    | add _ h _ _=>omega
    | seen h _=>omega
    | nought h _=>omega
    | gone h _ _ _=>omega
   obtain⟨hb1,rfl,rfl⟩:=hb1;refine .inl (.inr ⟨L,xl,by rw[List.getElem?_set_ne hk];exact hL,h234,fun i z hz hil=>?_,rfl,rfl⟩);rcases yH hz with⟨rfl,rfl⟩ | ⟨_,hz⟩
   ·exact hb1
   ·exact hoth i z hz hil
theorem R3.Av(H:R3 T st sm){x y:WS}(hx:T[k]? = some x):Fits x.stage st sm/\∀(P:Program) (g g':Goroutine) (st' sm':Int),Turn P g g' x.stage y.stage st sm st' sm'->R3 (T.set k y) st' sm':=by
 obtain⟨ha,rfl,rfl⟩:=H;have h1:=ha k x hx;refine⟨⟨fun h=>by omega,fun h=>by omega,fun h=>by omega⟩,fun P g g' st' sm' ht=>?_⟩;have hb1:y.stage=1/\st'=0/\sm'=1:=by
  generalize y.stage=b at *;generalize x.stage=a at *;cases ht with
  | same h=>exact⟨by omega,rfl,rfl⟩
  | add _ h _ _=>omega
  | seen h _=>omega
  | nought h _=>omega
  | gone h _ _ _=>omega
 obtain⟨hb1,rfl,rfl⟩:=hb1;refine⟨fun i z hz=>?_,rfl,rfl⟩;rcases yH hz with⟨rfl,rfl⟩ | ⟨_,hz⟩
 ·exact hb1
 ·exact ha i z hz
theorem MR.shut(hjn:j<=n)(hn:n<2147483648):Bj N0 j MR:=by
 intro T k x y st sm hl hs ho hx H;rcases H with H | H | H
 ·obtain⟨h1,h2⟩:=La (y:=y) hjn hn hl hs ho hx (.inl H);exact⟨h1,fun P g g' st' sm' ht=>(h2 P g g' st' sm' ht).elim (fun h=>h.elim .inl fun h=>.inr (.inl h)) fun h=>.inr (.inr h.1)⟩
 ·obtain⟨h1,h2⟩:=La (y:=y) hjn hn hl hs ho hx (.inr H);exact⟨h1,fun P g g' st' sm' ht=>(h2 P g g' st' sm' ht).elim (fun h=>h.elim .inl fun h=>.inr (.inl h)) fun h=>.inr (.inr h.1)⟩
 ·obtain⟨h1,h2⟩:=H.Av (y:=y) hx;exact⟨h1,fun P g g' st' sm' ht=>.inr (.inr (h2 P g g' st' sm' ht))⟩
end
end Go.Eng
namespace Go.Eng
open Go Go.Conc Go.ConcN
open Go.ConcR (KK wgBlock WgAt stA smA rd wr mk g_of_ofEvents Bk DC0 bk_of_mute ofEvent_loc_mark ofEvent_cell ofEvent_mk deafBehind_cons deafBehind_one again_blocked)
variable {fr:Frame}{cs:List Frame}
section
variable {P:Program}{Φ:Ph}{N0 j:Nat}{h h' h1 hc:Heap}{T:List WS}{gs:Array Goroutine}{w0 w w' : World}{t:Trace}{es:Array Event}{sl:Option (Nat × Nat)}{st sm:Int}{M M' : List WS -> Int -> Int -> Prop}{d0:Nat}{g0 g1:Goroutine}
  {Good:Machine -> Outcome -> World -> Trace -> Prop}
theorem FP{m:Mark}(h:m=.disable\/m=.enable\/m=.read (smA Φ.Wg)\/m=.write (smA Φ.Wg)\/m=.acquire (stA Φ.Wg)):∀e∈(#[mk m]:Array Event),Bk Φ.Wg e\/e=mk (.read (smA Φ.Wg))\/e=mk (.write (smA Φ.Wg))\/e=mk (.acquire (stA Φ.Wg)):=by
 intro e he;simp only[List.mem_toArray,List.mem_singleton]at he;subst he;rcases h with rfl | rfl | rfl | rfl | rfl
 ·exact .inl (.inl rfl)
 ·exact .inl (.inr (.inl rfl))
 ·exact .inr (.inl rfl)
 ·exact .inr (.inr (.inl rfl))
 ·exact .inr (.inr (.inr rfl))
theorem Xi:∀e∈(#[rd (stA Φ.Wg),wr (stA Φ.Wg)]:Array Event),Bk Φ.Wg e\/e=mk (.read (smA Φ.Wg))\/e=mk (.write (smA Φ.Wg))\/e=mk (.acquire (stA Φ.Wg)):=by
 intro e he;simp only[List.mem_toArray,List.mem_cons,List.not_mem_nil,or_false]at he;rcases he with rfl | rfl <;> exact .inl (bk_cell _ _ rfl)
theorem Of:∀e∈(#[rd (stA Φ.Wg)]:Array Event),Bk Φ.Wg e\/e=mk (.read (smA Φ.Wg))\/e=mk (.write (smA Φ.Wg))\/e=mk (.acquire (stA Φ.Wg)):=by
 intro e he;simp only[List.mem_toArray,List.mem_singleton]at he;subst he;exact .inl (bk_cell _ _ rfl)
theorem sem_bk':∀e∈semEvents (smA Φ.Wg),Bk Φ.Wg e\/e=mk (.read (smA Φ.Wg))\/e=mk (.write (smA Φ.Wg))\/e=mk (.acquire (stA Φ.Wg)):=fun e he=>.inl (bk_sem (smA Φ.Wg) (Wg:=Φ.Wg) rfl e he)
theorem Iop.stop(X:Iop P Φ N0 j h w0 M d0 g0 T gs w t)(hn:Bj N0 j M)(hr:g0.status=.running)(sl:Option (Nat×Nat))
  (H:∀T' gs w t sl,Le T' T->Iop P Φ N0 j h w0 M d0 g0 T' gs w t->∃g1 w' es,stepG P true g0 w=.go g1 w' es/\Runs P Good (crowd (xN P gs g0 g1 w') w' sl) (t++MemOp.ofEvents 0 g0.frame.fn g0.frame.place es)):Runs P Good (crowd gs w sl) t:=by
 refine X.Av hn hr (fun T' gs w t sl hle X=>?_) sl;obtain⟨g1,w',es,h1,h2⟩:=H T' gs w t sl hle X;exact .inl ⟨_,_,CR X.g0 h1,h2⟩
theorem Zy{Nx:Frame->List Frame->Prop}(hj:j+1<=Φ.n)(hn:Φ.n<2147483648)(H:Bi P Φ Nx fr cs)(X:Iop P Φ N0 j h w0 (MO False 0) 0 (gor fr cs) T gs w t)(sl:Option (Nat×Nat))
  (K:∀fr' cs' T' gs' w' t' sl',Nx fr' cs'->Iop P Φ N0 j h w0 (MO False 1) 0 (gor fr' cs') T' gs' w' t'->Runs P Good (crowd gs' w' sl') t'):Runs P Good (crowd gs w sl) t:=by
 have s0:Bj N0 j (MO False 0):=MO.shut (n:=Φ.n) (by omega) hn;have s1:Bj N0 j (MO False 1):=MO.shut (n:=Φ.n) hj hn;obtain⟨m,H⟩:=H;refine Iop.sil s0 m _ T gs w t sl H X fun ga T gs w t sl _ hst X=>?_
 refine X.stop s0 (hst w X.J).1 sl fun T gs w t sl _ X=>?_
 obtain⟨_,gb,h1,m,h2⟩:=hst w X.J;obtain⟨st,sm,hw,hM⟩:=X.wg;refine⟨gb,w,_,h1,Iop.sil s0 m gb T _ _ _ sl h2 (X.book (Aside.refl _ _) hw hM (FP (.inl rfl)) _ _) fun gc T gs w t sl _ hst X=>?_⟩;refine X.stop s0 (hst w X.J).1 sl fun T gs w t sl _ X=>?_
 obtain⟨_,h0⟩:=hst w X.J;obtain⟨st,sm,hw,⟨rfl,rfl,hm⟩,hq⟩:=X.wg;have hVj:=PD X.I.len X.I.old;obtain⟨gd,h1,h2,h3⟩:=h0 (V T) (by omega) (by simpa using hw);have hA:Aside Φ.Wg w (w.setCell (stA Φ.Wg) (Value.int .u64 ((((V T:Nat):Int)+1)*KK))):=aside_setCell w (stA Φ.Wg) _;have X2:=X.book (g1:=gd) (M':=MO False 1) hA (hw.setSt _) ⟨⟨by simp only[KK];omega,rfl,hm⟩,hq⟩ Xi gc.frame.fn gc.frame.place;have enab:∀ {g T gs w t sl m},Sil P true Φ.J (H7 P Φ Nx) m g->Iop P Φ N0 j h w0 (MO False 1) 1 g T gs w t->Runs P Good (crowd gs w sl) t:=by
  intro g T gs w t sl m h2 X;refine Iop.sil s1 m g T gs w t sl h2 X fun ge T gs w t sl _ hst X=>?_
  refine X.stop s1 (hst w X.J).1 sl fun T gs w t sl _ X=>?_
  obtain⟨_,gf,h1,m,h2⟩:=hst w X.J;obtain⟨st,sm,hw,hM⟩:=X.wg;refine⟨gf,w,_,h1,Iop.sil s1 m gf T _ _ _ sl h2 (X.book (Aside.refl _ _) hw hM (FP (.inr (.inl rfl))) _ _) fun gg T gs w t sl _ hst X=>?_⟩;obtain⟨fr',cs',rfl,hx⟩:=hst w X.J;exact K fr' cs' T gs w t sl hx X
 refine⟨gd,_,_,h1,?_⟩;by_cases hv:V T=0
 ·obtain⟨m,h4⟩:=h2 hv;refine Iop.sil s1 m gd T _ _ _ sl h4 X2 fun ge T gs w t sl _ hst X=>?_
  refine X.stop s1 (hst w X.J).1 sl fun T gs w t sl _ X=>?_
  obtain⟨_,gf,h1,m,h2⟩:=hst w X.J;obtain⟨st,sm,hw,hM⟩:=X.wg;exact⟨gf,w,_,h1,enab h2 (X.book (Aside.refl _ _) hw hM (FP (.inr (.inr (.inl rfl)))) _ _)⟩
 ·obtain⟨m,h4⟩:=h3 hv;exact enab h4 X2
theorem Wp{Nx:Frame->List Frame->Heap->Prop}(hj:j+1<=Φ.n)(hn:Φ.n<2147483648)(H:CP P Φ j Nx fr cs h)(X:Iop P Φ N0 j h w0 (MO False 1) 0 (gor fr cs) T gs w t)(sl:Option (Nat×Nat))
  (K:∀fr' cs' h' T' gs' w' t' sl',Nx fr' cs' h'->(∀b,Φ.S b->h' b=h b)->Iop P Φ N0 (j+1) h' w0 (MO False 0) 0 (gor fr' cs') T' gs' w' t'->Runs P Good (crowd gs' w' sl') t'):Runs P Good (crowd gs w sl) t:=by
 have s1:Bj N0 j (MO False 1):=MO.shut (n:=Φ.n) hj hn;obtain⟨h1,hc,su1,suc,hap,hS,H⟩:=H;refine X.Av s1 rfl (fun T gs w t sl _ X=>.inl ?_) sl;obtain⟨fr',cs',frc,csc,hs,⟨rk,hR⟩,hN⟩:=H w X.C.has X.J;refine⟨_,_,runT_crowd_spawn X.g0 hs,K fr' cs' h1 (T++[⟨8,rk,0,hc⟩]) _ _ _ sl hN hS ?_⟩;have hsz:gs.size=T.length+1:=X.I.gsz;obtain⟨st,sm,hw,⟨⟨rfl,rfl,hm⟩,_⟩⟩:=X.wg;have e:∀(a b:MemOp),t++(((MemOp.ofEvents 0 (gor fr cs).frame.fn (gor fr cs).frame.place #[]).push a).push b)=t++#[a,b]:=fun a b=>by
  apply Array.ext';simp[MemOp.ofEvents]
 rw[e,hsz];refine⟨X.C.spawn (by have:=X.I.len;omega) su1 suc hap hS ⟨rfl,rfl⟩ ⟨rfl,rfl⟩ X.deaf rfl,X.I.spawn X.C su1 suc (by omega) X.g0 ⟨rfl,rfl⟩ ⟨rfl,rfl⟩ X.deaf hR,⟨_,_,hw,⟨⟨?_,rfl,?_⟩,False.elim⟩⟩,?_,?_⟩
 ·have:V (T++[(⟨8,rk,0,hc⟩:WS)])=V T+1:=by
   unfold V;rw[List.countP_append];simp
  rw[this]
 ·intro k x hx;rcases jM hx with hx | ⟨_,rfl⟩
  ·exact hm k x hx
  ·exact⟨by simp,by simp,by simp⟩
 ·rw[Array.getElem?_push,if_neg (by rw[Array.size_setIfInBounds];omega)];have hlt:=(Array.getElem?_eq_some_iff.1 X.g0).1;simp[hlt]
 ·rw[Deaf_still t 0 _ fun op hop=>?_]
  ·exact X.deaf
  ·have:=(HC (k:=T.length+1) (x:={ g:=0,fn:=(gor fr cs).frame.fn,pos:=(gor fr cs).frame.place,act:=.go (T.length+1) }) (y:={ g:=T.length+1,fn:=(gor frc csc).frame.fn,pos:=(gor fr cs).frame.place,act:=.start }) ⟨rfl,rfl⟩ ⟨rfl,rfl⟩ op hop).2.1;exact⟨this _,this _⟩
theorem Nl(I:InPh P Φ N0 j h T gs w t)(hJ:Φ.J w)(h0:gs[0]? = some g0)(hg:g0.status=.running\/g0.status=.blocked):∀g∈gs,awake g:=Nk I hJ h0 (hg.elim .inl fun h=>.inr (.inr h))
theorem Zz{Nx:Frame->List Frame->Prop}{g3:Goroutine}(hjn:j<=Φ.n)(hn:Φ.n<2147483648)(hst:∀w,Φ.J w->AtW3 P Φ Nx g3 w)
  (K:∀g' T' gs' w' t' sl' m,Sil P true Φ.J (AtW4 P Φ Nx) m g'->Iop P Φ N0 j h w0 (MO True 0) 1 g' T' gs' w' t'->Runs P Good (crowd gs' w' sl') t') :
  ∀T gs w t sl g0,((g0=g3/\Iop P Φ N0 j h w0 MR 1 g0 T gs w t)\/(g0={ g3 with status:=.blocked }/\Iop P Φ N0 j h w0 (fun T st sm=>R1 T st sm\/R2 T st sm) 1 g0 T gs w t))->Runs P Good (crowd gs w sl) t:=by
 intro T;induction (One.wf WS.wf).apply T with
 | intro T _ ih=>
  have other:∀gs w t sl g0 k g,((g0=g3/\Iop P Φ N0 j h w0 MR 1 g0 T gs w t)\/(g0={ g3 with status:=.blocked }/\Iop P Φ N0 j h w0 (fun T st sm=>R1 T st sm\/R2 T st sm) 1 g0 T gs w t))->gs[k+1]? = some g->g.status=.running ->
    ∃m' ops,runT P (crowd gs w sl) (k+1)=(.next m',ops)/\Runs P Good m' (t++ops):=by
   intro gs w t sl g0 k g H hk hrun;rcases H with⟨rfl,X⟩ | ⟨rfl,X⟩
   ·obtain⟨T',gs',w',ops,h1,h2,h3⟩:=X.worker (sl:=sl) (MR.shut hjn hn) (hst w X.J).1 hk hrun;exact⟨_,ops,h1,ih T' h2 gs' w' _ sl g0 (.inl ⟨rfl,h3⟩)⟩
   ·obtain⟨hr3,ho3,_⟩:=hst w X.J;obtain⟨st,sm,hw,hM⟩:=X.wg;have hlt:k<T.length:=by
     have:=(Array.getElem?_eq_some_iff.1 hk).1;rw[X.I.gsz]at this;omega
    have hx:=List.getElem?_eq_getElem hlt;have hs1:∀(k:Nat) (x:WS),T[k]? = some x->1<=x.stage:=fun k x hx=>by
     obtain⟨g,_,hs⟩:=X.I.sit k x hx;generalize Deaf t (k+1)=d at hs;cases hs <;> simp
    obtain⟨g',w',es,y,st',sm',e1,e2,e3,e4,e5,e6⟩:=Xg X.C X.I hw hk hx hrun (La (y:=⟨0,.leaf,0,emp⟩) hjn hn X.I.len hs1 X.I.old hx hM).1;have hR:=(La (y:=y) hjn hn X.I.len hs1 X.I.old hx hM).2 _ _ _ _ _ e6;have hdf:Deaf (t++MemOp.ofEvents (k+1) g.frame.fn g.frame.place es) 0=1:=by
     rw[Deaf_other t (by omega) _ g_of_ofEvents];exact X.deaf
    have hz:=DF (P:=P) (k:=k) (g:=g) (g':=g') (w':=w') X.g0;have hwk:woken P g g' w' ({ g3 with status:=.blocked }:Goroutine)=g3\/woken P g g' w' ({ g3 with status:=.blocked }:Goroutine)={ g3 with status:=.blocked }:=by
     unfold woken;split
     ·exact .inl (again_blocked hr3 ho3 w')
     ·exact .inr rfl
    refine⟨_,_,P8 hk e1,ih _ (One.set hx e2) _ _ _ sl (woken P g g' w' ({ g3 with status:=.blocked }:Goroutine)) ?_⟩;rcases hR with hR | ⟨hR,m1,m2,m3⟩
    ·rcases hwk with e | e
     ·exact .inl ⟨e,e3,e4,⟨st',sm',e5,hR.elim .inl fun h=>.inr (.inl h)⟩,by rw[e];rw[e]at hz;exact hz,hdf⟩
     ·exact .inr ⟨e,e3,e4,⟨st',sm',e5,hR⟩,by rw[e];rw[e]at hz;exact hz,hdf⟩
    ·have e:woken P g g' w' ({ g3 with status:=.blocked }:Goroutine)=g3:=by
      unfold woken;rw[if_pos (by simp[m1,m2,m3])];exact again_blocked hr3 ho3 w'
     exact .inl ⟨e,e3,e4,⟨st',sm',e5,.inr (.inr hR)⟩,by rw[e];rw[e]at hz;exact hz,hdf⟩
  have blk:∀gs w t sl,Iop P Φ N0 j h w0 (fun T st sm=>R1 T st sm\/R2 T st sm) 1 { g3 with status:=.blocked } T gs w t->Runs P Good (crowd gs w sl) t:=by
   intro gs w t sl X;have hrun:∃(i:Nat) (g:Goroutine),gs[i]? = some g/\g.status=.running:=by
    obtain⟨st,sm,hw,hM⟩:=X.wg;have up:∀ {k:Nat} {x:WS},T[k]? = some x->x.stage≠1->∃(i:Nat) (g:Goroutine),gs[i]? = some g/\g.status=.running:=fun hx h1=>by
     obtain⟨g,hg,hs⟩:=X.I.sit _ _ hx;exact⟨_,g,hg,(hs.status X.J).resolve_right fun h=>h1 h.2⟩
    rcases hM with⟨_,_,hV,_⟩ | ⟨L,x,hx,h234,_⟩
    ·obtain⟨x,hx,h5⟩:=List.countP_pos_iff.1 hV;obtain⟨k,hk⟩:=List.getElem?_of_mem hx;exact up hk (by simp at h5;omega)
    ·exact up hx (by omega)
   obtain⟨i,g,d,sl',hg,hr,hstep⟩:=crowd_pick (P:=P) (w:=w) (sl:=sl) (Nl X.I X.J X.g0 (.inr rfl)) hrun;cases i with
   | zero=>rw[X.g0]at hg;cases hg;cases hr
   | succ k=>
    obtain⟨m',ops,e1,e2⟩:=other gs (w.at d) t sl' _ k g (.inr ⟨rfl,X.at d⟩) hg hr;exact .step (hstep.trans e1) e2
  intro gs w t sl g0 H;rcases H with⟨rfl,X⟩ | ⟨rfl,X⟩
  ·obtain⟨i,g,d,sl',hg,hr,hstep⟩:=crowd_pick (P:=P) (w:=w) (sl:=sl) (Nl X.I X.J X.g0 (.inl (hst w X.J).1)) ⟨0,_,X.g0,(hst w X.J).1⟩;cases i with
   | zero=>
    have X':=X.at d;obtain⟨st,sm,hw,hM⟩:=X'.wg;obtain⟨_,_,hb,hg2⟩:=hst (w.at d) X'.J;have fin:R1 T st sm\/R2 T st sm->Runs P Good (crowd gs w sl) t:=fun hR=>by
     have hs0:sm=0:=by
      rcases hR with⟨_,h,_⟩ | ⟨_,_,_,_,_,_,h⟩ <;> exact h
     subst hs0;refine .step (hstep.trans (CR X.g0 (hb ⟨st,hw⟩))) (blk _ _ _ sl' ?_);exact X'.book (M':=fun T st sm=>R1 T st sm\/R2 T st sm) (es:=#[]) (Aside.refl _ _) hw hR (fun e he=>by simp at he) _ _
    rcases hM with hM | hM | ⟨hall,rfl,rfl⟩
    ·exact fin (.inl hM)
    ·exact fin (.inr hM)
    ·obtain⟨g',e1,m,e2⟩:=hg2 hw;refine .step (hstep.trans (CR X.g0 e1)) (K g' T _ _ _ sl' m e2 ?_);have hV0:V T=0:=by
      unfold V;refine List.countP_eq_zero.2 fun x hx=>?_
      obtain⟨k,hk⟩:=List.getElem?_of_mem hx;simp[hall k x hk]
     have hA:Aside Φ.Wg (w.at d) ((w.at d).setCell (smA Φ.Wg) (Value.int .u32 0)):=aside_setCell _ (smA Φ.Wg) _;exact X'.book (M':=MO True 0) hA (hw.setSm _) ⟨⟨by rw[hV0];simp[KK],rfl,fun k x hx=>by have:=hall k x hx;omega⟩,fun _=>hall⟩ sem_bk' _ _
   | succ k=>
    obtain⟨m',ops,e1,e2⟩:=other gs (w.at d) t sl' _ k g (.inl ⟨rfl,X.at d⟩) hg hr;exact .step (hstep.trans e1) e2
  ·exact blk gs w t sl X
theorem Yr{Nx:Frame->List Frame->Prop}(hjn:j<=Φ.n)(hn:Φ.n<2147483648)(H:kV P Φ Nx fr cs)(X:Iop P Φ N0 j h w0 (MO False 0) 0 (gor fr cs) T gs w t)(sl:Option (Nat×Nat))
  (K:∀g' T' gs' w' t' sl',(∀w,Φ.J w->Jt P Φ Nx g' w)->Iop P Φ N0 j h w0 (MO True 0) 0 g' T' gs' w' t'->Runs P Good (crowd gs' w' sl') t'):Runs P Good (crowd gs w sl) t:=by
 have s0:Bj N0 j (MO False 0):=MO.shut (n:=Φ.n) (by omega) hn;have s1:Bj N0 j (MO True 0):=MO.shut (n:=Φ.n) (by omega) hn;have sr:Bj N0 j MR:=MR.shut hjn hn;obtain⟨Anch,hAn,m,H⟩:=H;have enab:∀ {g T gs w t sl m},Sil P true Φ.J (H9 P Φ Nx) m g->Iop P Φ N0 j h w0 (MO True 0) 1 g T gs w t->Runs P Good (crowd gs w sl) t:=by
  intro g T gs w t sl m h2 X;refine Iop.sil s1 m g T gs w t sl h2 X fun ge T gs w t sl _ hst X=>?_
  refine X.stop s1 (hst w X.J).1 sl fun T gs w t sl _ X=>?_
  obtain⟨_,gf,h1,m,h2⟩:=hst w X.J;obtain⟨st,sm,hw,hM⟩:=X.wg;exact⟨gf,w,_,h1,Iop.sil s1 m gf T _ _ _ sl h2 (X.book (Aside.refl _ _) hw hM (FP (.inr (.inl rfl))) _ _) fun gg T gs w t sl _ hst X=>K gg T gs w t sl hst X⟩
 have loop:∀T gs w t sl m g0,Sil P true Φ.J (fun g _=>Anch g) m g0->Iop P Φ N0 j h w0 (MO False 0) 1 g0 T gs w t->Runs P Good (crowd gs w sl) t:=by
  intro T;induction (One.wf WS.wf).transGen.apply T with
  | intro T _ ih=>
   intro gs w t sl m g0 H X;refine Iop.sil s0 m g0 T gs w t sl H X fun g1 T1 gs w t sl l1 hst X=>?_
   obtain⟨m,H⟩:=hAn g1 (hst w X.J);refine Iop.sil s0 m g1 T1 gs w t sl H X fun g2 T2 gs w t sl l2 hst X=>?_
   refine X.stop s0 (hst w X.J).1 sl fun T3 gs w t sl l3 X=>?_
   obtain⟨_,h0⟩:=hst w X.J;obtain⟨st,sm,hw,⟨⟨rfl,rfl,hm⟩,hq⟩⟩:=X.wg;have hVj:=PD X.I.len X.I.old;obtain⟨g3,h1,h2,h3⟩:=h0 (V T3) (by omega) (by simpa using hw);refine⟨g3,w,_,h1,?_⟩;by_cases hv:V T3=0
   ·obtain⟨m,h4⟩:=h2 hv;refine enab h4 (X.book (M':=MO True 0) (Aside.refl _ _) hw ⟨⟨rfl,rfl,hm⟩,fun _ k x hx=>?_⟩ Of _ _);have e1:=hm k x hx;have e2:¬5<=x.stage:=fun h5=>by have:=S1 hx h5;omega
    obtain⟨g,_,hs⟩:=X.I.sit k x hx;generalize Deaf t (k+1)=d at hs;cases hs <;> simp at e1 e2 ⊢
   ·obtain⟨m,h4⟩:=h3 hv;refine Iop.sil s0 m g3 T3 _ _ _ sl h4 (X.book (M':=MO False 0) (Aside.refl _ _) hw ⟨⟨rfl,rfl,hm⟩,hq⟩ Of _ _) fun g4 T4 gs w t sl l4 hst X=>?_
    refine X.stop s0 (hst w X.J).1 sl fun T5 gs w t sl l5 X=>?_
    obtain⟨_,h0⟩:=hst w X.J;obtain⟨st,sm,hw,⟨⟨rfl,rfl,hm⟩,hq⟩⟩:=X.wg;have hVj:=PD X.I.len X.I.old;obtain⟨h5,h6⟩:=h0 (V T5) (by omega) (by simpa using hw);by_cases hvv:V T5=V T3
    ·obtain⟨g5,e1,m,e2⟩:=h5 hvv;have hA:Aside Φ.Wg w (w.setCell (stA Φ.Wg) (Value.int .u64 (((V T5:Nat):Int)*KK+1))):=aside_setCell w (stA Φ.Wg) _;refine⟨g5,_,_,e1,Iop.sil sr m g5 T5 _ _ _ sl e2 (X.book (M':=MR) hA (hw.setSt _) (.inl ⟨rfl,rfl,by omega,hm⟩) Xi _ _) fun g6 T6 gs w t sl l6 hst X=>?_⟩;refine X.stop sr (hst w X.J).1 sl fun T7 gs w t sl l7 X=>?_
     obtain⟨_,g7,e1,m,e2⟩:=hst w X.J;obtain⟨st,sm,hw,hM⟩:=X.wg;refine⟨g7,w,_,e1,Iop.sil sr m g7 T7 _ _ _ sl e2 (X.book (Aside.refl _ _) hw hM (FP (.inr (.inr (.inr (.inl rfl))))) _ _) fun g8 T8 gs w t sl l8 hst X=>?_⟩;refine Zz hjn hn hst (fun g9 T9 gs w t sl m hs X=>?_) T8 gs w t sl g8 (.inl ⟨rfl,X⟩);refine Iop.sil s1 m g9 T9 _ _ _ sl hs X fun g10 T10 gs w t sl _ hst X=>?_
     refine X.stop s1 (hst w X.J).1 sl fun T11 gs w t sl _ X=>?_
     obtain⟨_,h0⟩:=hst w X.J;obtain⟨st,sm,hw,hM⟩:=X.wg;obtain⟨⟨rfl,rfl,hm⟩,hall⟩:=hM;have hV0:V T11=0:=by
      unfold V;refine List.countP_eq_zero.2 fun x hx=>?_
      obtain⟨k,hk⟩:=List.getElem?_of_mem hx;simp[hall trivial k x hk]
     obtain⟨g11,e1,m,e2⟩:=h0 (by simpa[hV0]using hw);exact⟨g11,w,_,e1,enab e2 (X.book (M':=MO True 0) (Aside.refl _ _) hw ⟨⟨rfl,rfl,hm⟩,hall⟩ Of _ _)⟩
    ·obtain⟨g5,e1,m,e2⟩:=h6 hvv;have up:∀ {A B:List WS},Le A B->A=B\/Relation.TransGen (One WS.lt) A B:=fun h=>by
      induction h with
      | refl=>exact .inl rfl
      | step h1 _ ih=>exact .inr (ih.elim (fun e=>e ▸ .single h1) fun h2=>.trans (.single h1) h2)
     have hlt:Relation.TransGen (One WS.lt) T5 T:=by
      rcases up (l5.trans l4)with e | e
      ·exact absurd (by rw[e]) hvv
      ·rcases up (l3.trans (l2.trans l1))with e2 | e2
       ·exact e2▸e
       ·exact .trans e e2
     exact⟨g5,w,_,e1,ih T5 hlt _ _ _ sl m g5 e2 (X.book (M':=MO False 0) (Aside.refl _ _) hw ⟨⟨rfl,rfl,hm⟩,hq⟩ Of _ _)⟩
 refine Iop.sil s0 m _ T gs w t sl H X fun ga T gs w t sl _ hst X=>?_
 refine X.stop s0 (hst w X.J).1 sl fun T gs w t sl _ X=>?_
 obtain⟨_,gb,h1,m,h2⟩:=hst w X.J;obtain⟨st,sm,hw,hM⟩:=X.wg;exact⟨gb,w,_,h1,loop T _ _ _ sl m gb h2 (X.book (Aside.refl _ _) hw hM (FP (.inl rfl)) _ _)⟩
theorem za2(hS:∀fr cs h Q,¬Φ.S.big fr cs h Q)(hn:Φ.n<2147483648){Q:Frame->List Frame->Heap->Prop} :
  ∀(r j:Nat) (fr:Frame) (cs:List Frame) (h:Heap) (T:List WS) (gs:Array Goroutine) (w:World) (t:Trace) (sl:Option (Nat×Nat)),r+j=Φ.n->Sp P Φ Q r fr cs h->Iop P Φ N0 j h w0 (MO False 0) 0 (gor fr cs) T gs w t ->
   (∀h' g' T' gs' w' t' sl',(∀b,Φ.S b->h' b=h b)->(∀w,Φ.J w->Jt P Φ (fun fr' cs'=>Q fr' cs' h') g' w)->Iop P Φ N0 Φ.n h' w0 (MO True 0) 0 g' T' gs' w' t'->Runs P Good (crowd gs' w' sl') t')->Runs P Good (crowd gs w sl) t:=by
 intro r;induction r with
 | zero=>
  intro j fr cs h T gs w t sl hr H X K;obtain rfl:j=Φ.n:=by omega
  refine Iop.safe hS (MO.shut (n:=Φ.n) (by omega) hn) H T gs w t sl X fun fr' cs' h' T' gs' w' t' sl' hW hro X=>?_
  exact Yr (Nat.le_refl _) hn hW X sl' fun g' T2 gs2 w2 t2 sl2 hst X=>K h' g' T2 gs2 w2 t2 sl2 hro hst X
 | succ r ih=>
  intro j fr cs h T gs w t sl hr H X K;have hjj:Φ.n-(r+1)=j:=by omega
  refine Iop.safe hS (MO.shut (n:=Φ.n) (by omega) hn) H T gs w t sl X fun fr1 cs1 ha T1 gs1 w1 t1 sl1 hA hro1 X=>?_
  refine Zy (by omega) hn hA X sl1 fun fr2 cs2 T2 gs2 w2 t2 sl2 hN X=>?_
  refine Iop.safe hS (MO.shut (n:=Φ.n) (by omega) hn) hN T2 gs2 w2 t2 sl2 X fun fr3 cs3 hb T3 gs3 w3 t3 sl3 hB hro2 X=>?_
  rw[hjj]at hB;refine Wp (by omega) hn hB X sl3 fun fr4 cs4 hd T4 gs4 w4 t4 sl4 hC hro3 X=>?_
  exact ih (j+1) fr4 cs4 hd T4 gs4 w4 t4 sl4 (by omega) hC X fun h' g' T' gs' w' t' sl' hro=>K h' g' T' gs' w' t' sl' fun b hb'=>by rw[hro b hb',hro3 b hb',hro2 b hb',hro1 b hb']
end
end Go.Eng
namespace Go.Eng
open Go Go.Conc
open Go.ConcN hiding upd upd_same upd_ne
open Go.ConcR (KK wgBlock WgAt stA smA rd wr mk g_of_ofEvents Bk DC0 bk_of_mute ofEvent_loc_mark ofEvent_cell ofEvent_mk deafBehind_cons deafBehind_one)
variable {g:Goroutine}{fr:Frame}{cs:List Frame}{P:Program}
section
variable {Φ:Ph}{main:Bool}{J:World -> Prop}{Nx Nx' : Frame -> List Frame -> Prop}
theorem Sil.mono{Stop Stop':Goroutine->World->Prop}(hS:∀g w,Stop g w->Stop' g w):∀ {n:Nat} {g:Goroutine},Sil P main J Stop n g->Sil P main J Stop' n g:=by
 intro n;induction n with
 | zero=>exact fun H w w₁ hw=>hS _ _ (H w w₁ hw)
 | succ n ih=>
  intro g H w;rcases H w with h | ⟨hs,h⟩
  ·exact .inl fun w₁ hw=>hS _ _ (h w₁ hw)
  ·refine .inr ⟨hs,fun w₁ hw=>?_⟩;have:=h w₁ hw;revert this;cases stepG P main g w₁ <;> simp only[GStep.goes,imp_self]
   exact fun⟨d,x⟩=>⟨d,ih (Sil.of x) _⟩
theorem ks{Stop Stop':Goroutine->World->Prop}(hS:∀g w,Stop g w->Stop' g w):(∃m,Sil P main J Stop m g)->∃m,Sil P main J Stop' m g:=fun⟨m,h⟩=>⟨m,h.mono hS⟩
variable (hN:∀ fr cs, Nx fr cs -> Nx' fr cs)
include hN
theorem Py.mono(g:Goroutine)(w:World):Py Nx g w->Py Nx' g w:=fun⟨fr,cs,e,h⟩=>⟨fr,cs,e,hN _ _ h⟩
theorem H7.mono(g:Goroutine)(w:World):H7 P Φ Nx g w->H7 P Φ Nx' g w:=fun⟨h1,g',h2,h3⟩=>⟨h1,g',h2,ks (Py.mono hN) h3⟩
theorem Pz.mono(g:Goroutine)(w:World):Pz P Φ Nx g w->Pz P Φ Nx' g w:=fun⟨h1,g',h2,h3⟩=>⟨h1,g',h2,ks (H7.mono hN) h3⟩
theorem AtA1.mono(g:Goroutine)(w:World):AtA1 P Φ Nx g w->AtA1 P Φ Nx' g w:=fun⟨h1,h2⟩=>⟨h1,fun v hv hw=>let⟨g',h3,h4,h5⟩:=h2 v hv hw;⟨g',h3,fun e=>ks (Pz.mono hN) (h4 e),fun e=>ks (H7.mono hN) (h5 e)⟩⟩
theorem Mp.mono(g:Goroutine)(w:World):Mp P Φ Nx g w->Mp P Φ Nx' g w:=fun⟨h1,g',h2,h3⟩=>⟨h1,g',h2,ks (AtA1.mono hN) h3⟩
theorem Bi.mono(H:Bi P Φ Nx fr cs):Bi P Φ Nx' fr cs:=ks (Mp.mono hN) H
theorem Jt.mono(g:Goroutine)(w:World):Jt P Φ Nx g w->Jt P Φ Nx' g w:=fun⟨h1,fr,cs,h2,h3⟩=>⟨h1,fr,cs,h2,hN _ _ h3⟩
theorem H9.mono(g:Goroutine)(w:World):H9 P Φ Nx g w->H9 P Φ Nx' g w:=fun⟨h1,g',h2,h3⟩=>⟨h1,g',h2,ks (Jt.mono hN) h3⟩
theorem AtW4.mono(g:Goroutine)(w:World):AtW4 P Φ Nx g w->AtW4 P Φ Nx' g w:=fun⟨h1,h2⟩=>⟨h1,fun hw=>let⟨g',h3,h4⟩:=h2 hw;⟨g',h3,ks (H9.mono hN) h4⟩⟩
theorem AtW3.mono(g:Goroutine)(w:World):AtW3 P Φ Nx g w->AtW3 P Φ Nx' g w:=fun⟨h1,h2,h3,h4⟩=>⟨h1,h2,h3,fun hw=>let⟨g',h5,h6⟩:=h4 hw;⟨g',h5,ks (AtW4.mono hN) h6⟩⟩
theorem P7.mono(g:Goroutine)(w:World):P7 P Φ Nx g w->P7 P Φ Nx' g w:=fun⟨h1,g',h2,h3⟩=>⟨h1,g',h2,ks (AtW3.mono hN) h3⟩
theorem AtW2.mono{Anch:Goroutine->Prop}{vs:Nat}(g:Goroutine)(w:World):AtW2 P Φ Nx Anch vs g w->AtW2 P Φ Nx' Anch vs g w:=
 fun⟨h1,h2⟩=>⟨h1,fun v hv hw=>⟨fun e=>let⟨g',h3,h4⟩:=(h2 v hv hw).1 e;⟨g',h3,ks (P7.mono hN) h4⟩,(h2 v hv hw).2⟩⟩
theorem AtW1.mono{Anch:Goroutine->Prop}(g:Goroutine)(w:World):AtW1 P Φ Nx Anch g w->AtW1 P Φ Nx' Anch g w:=
 fun⟨h1,h2⟩=>⟨h1,fun v hv hw=>let⟨g',h3,h4,h5⟩:=h2 v hv hw;⟨g',h3,fun e=>ks (H9.mono hN) (h4 e),fun e=>ks (AtW2.mono hN) (h5 e)⟩⟩
theorem kV.mono(H:kV P Φ Nx fr cs):kV P Φ Nx' fr cs:=let⟨Anch,h1,h2⟩:=H;⟨Anch,fun g hg=>ks (AtW1.mono hN) (h1 g hg),h2⟩
end
variable {f h h1:Heap}
section
variable {Φ:Ph}
theorem Nm(s:Sub h1 h)(ha:Apart h f):Apart h1 f:=fun b hb=>by
 cases e:h1 b with
 | none=>rfl
 | some o=>have:=s b o e;rw[ha b hb]at this;cases this
theorem PE(s:Sub h1 h)(ha:Apart h f):Sub (plus h1 f) (plus h f):=fun b o hb=>by
 unfold plus at hb ⊢;cases e:h1 b with
 | some u=>rw[e]at hb;rw[s b u e];exact hb
 | none=>
  rw[e]at hb;have:h b=none:=ha b (by simp only at hb;rw[hb];simp);rw[this];exact hb
theorem CP.frame{i:Nat}{Nx Nx':Frame->List Frame->Heap->Prop}(ha:Apart h f)(hN:∀fr cs h1,Nx fr cs h1->Apart h1 f->Nx' fr cs (plus h1 f))(H:CP P Φ i Nx fr cs h):CP P Φ i Nx' fr cs (plus h f):=by
 obtain⟨h1,hc,s1,sc,hap,hS,H⟩:=H;refine⟨plus h1 f,hc,PE s1 ha,fun b o hb=>by simp[plus,sc b o hb],fun b hb hn=>ye.2 ⟨hap b hb hn,?_⟩,fun b hb=>by simp[plus,hS b hb],fun w hw hJ=>?_⟩
 ·cases e:f b with
  | none=>rfl
  | some o=>
   have h2:=ha b (by rw[e];simp);cases e2:hc b with
   | none=>exact absurd e2 hn
   | some u=>rw[sc b u e2]at h2;cases h2
 ·obtain⟨fr',cs',frc,csc,h2,h3,h4⟩:=H w hw.left hJ;exact⟨fr',cs',frc,csc,h2,h3,hN _ _ _ h4 (Nm s1 ha)⟩
theorem Sp.frame{Q:Frame->List Frame->Heap->Prop}:∀(r:Nat) {fr:Frame} {cs:List Frame} {h:Heap},Apart h f->Sp P Φ Q r fr cs h->Sp P Φ (fun fr cs h2=>∃h1,Q fr cs h1/\Apart h1 f/\h2=plus h1 f) r fr cs (plus h f):=by
 intro r;induction r with
 | zero=>
  intro fr cs h ha H;refine(Safe.frame H f ha).bind fun fr cs h2 ⟨h1,hW,ha1,e⟩=>.done ?_
  exact kV.mono (fun fr' cs' hq=>⟨h1,hq,ha1,e⟩) hW
 | succ r ih=>
  intro fr cs h ha H;refine(Safe.frame H f ha).bind fun fr cs h2 ⟨h1,hA,ha1,e⟩=>.done ?_
  subst e;refine Bi.mono (fun fr' cs' hB=>?_) hA;refine(Safe.frame hB f ha1).bind fun fr cs h2 ⟨h3,hC,ha3,e⟩=>.done ?_
  subst e;exact hC.frame ha3 fun fr cs h1 hq ha=>ih ha hq
end
variable {b:Nat}{o:Obj}
theorem upd_same':upd h b o b=some o:=by simp[upd]
theorem upd_ne'{b x:Nat}(hx:x≠b):upd h b o x=h x:=by simp[upd,hx]
def Ph.vals(Φ:Ph):Array Value:=((List.range Φ.n).map Φ.val).toArray
def Ph.rest(Φ:Ph)(h:Heap):Heap:=fun b=>if b=Φ.Wg\/b=Φ.C then none else h b
structure PhOk(Φ:Ph)(S:Nat->Prop)(h:Heap)(zs:Array Value):Prop where
 nobig:∀fr cs h Q,¬Φ.S.big fr cs h Q
 small:Φ.n<2147483648
 ne:Φ.C≠Φ.Wg
 wg:h Φ.Wg=some (wgBlock Φ.ty 0 0)
 arr:h Φ.C=some (.cells zs Φ.ety)
 size:zs.size=Φ.n
 sub:∀b,S b->Φ.S b
 held:∀b,Φ.S b->Φ.rest h b≠none
def Phase(P:Program)(S:Nat->Prop)(fr:Frame)(cs:List Frame)(h:Heap)(Q:Frame->List Frame->Heap->Prop):Prop:=
 ∃(Φ:Ph) (zs:Array Value),PhOk Φ S h zs/\Sp P Φ (fun fr' cs' h'=>Q fr' cs' (upd h' Φ.C (.cells Φ.vals Φ.ety))) Φ.n fr cs (Φ.rest h)
def jz(P:Program)(s:Nat->Prop):Shared:=⟨s,Phase P s⟩
structure Out(P:Program)(S:Shared)(w0:World)(h:Heap)(g0:Goroutine)(T:List WS)(gs:Array Goroutine)(w:World)(t:Trace):Prop where
 C:Com w0 S T.length h T w t
 gsz:gs.size=T.length+1
 sit:∀(k:Nat) (x:WS),T[k]? = some x->x.heap=emp/\x.stage=1/\∃g,gs[k+1]? = some g/\QuitsD P x.fuel (Deaf t (k+1)) g
 g0:gs[0]? = some g0
 deaf:Deaf t 0=0
section
variable {Φ:Ph}{S:Shared}{N0 j:Nat}{h' hc : Heap}{T:List WS}{gs:Array Goroutine}{w0 w w' : World}{t:Trace}{es:Array Event}{sl:Option (Nat × Nat)}{st sm:Int}{g0 g1:Goroutine}
  {Good:Machine -> Outcome -> World -> Trace -> Prop}
theorem Out.at(X:Out P S w0 h g0 T gs w t)(d:Nat):Out P S w0 h g0 T gs (w.at d) t:=⟨X.C.at d,X.gsz,X.sit,X.g0,X.deaf⟩
theorem Out.worker(X:Out P S w0 h g0 T gs w t)(hr:g0.status=.running){k:Nat}(hk:gs[k+1]? = some g)(hrun:g.status=.running) :
  ∃T' gs' w' ops,runT P (crowd gs w sl) (k+1)=(.next (crowd gs' w' sl),ops)/\One WS.lt T' T/\Out P S w0 h g0 T' gs' w' (t++ops):=by
 have hlt:k<T.length:=by
  have:=(Array.getElem?_eq_some_iff.1 hk).1;rw[X.gsz]at this;omega
 have hx:=List.getElem?_eq_getElem hlt;generalize T[k]=x at hx;obtain⟨he,h1,g',hg,hQ⟩:=X.sit k x hx;rw[hk]at hg;cases hg
 obtain⟨s,rk,m,hp⟩:=x;simp only at he h1 hQ;subst he h1;cases m with
 | zero=>rw[hQ.1]at hrun;cases hrun
 | succ m=>
  rcases hQ with⟨h1,_⟩ | ⟨_,g',es,hm,h1,h2⟩
  ·rw[h1]at hrun;cases hrun
  ·have ht:∀e∈es,(MemAct.ofEvent e).touch? = none:=fun e he=>by
    rcases bk_of_mute (Wg:=0) (hm e he)with h3 | h3 | ⟨a,q,h3,_⟩
    ·rw[ofEvent_loc_mark h3];rfl
    ·rw[ofEvent_loc_mark h3];rfl
    ·have:=hm e he;rw[h3]at this;simp[Event.mute]at this
   refine⟨T.set k ⟨1,rk,m,emp⟩,_,w,_,P8 hk (h1 w),One.set hx (WS.Mq rfl rfl (Nat.lt_succ_self _)),?_,?_,?_,?_,?_⟩
   ·rw[List.length_set];refine X.C.other (g:=k+1) (by omega) g_of_ofEvents (List.length_set ..) (fun i z hz=>?_) ⟨rfl,rfl,rfl⟩ rfl (fun b _=>rfl) (fun op hop b hb=>?_) (fun op hop a hr=>?_) (.inr (.inr fun op hop=>?_))
    ·rcases yH hz with⟨rfl,rfl⟩ | ⟨_,hz⟩
     ·exact⟨_,hx,fun b hb=>absurd rfl hb⟩
     ·exact⟨z,hz,fun b _=>rfl⟩
    ·obtain⟨e,he,rfl⟩:=yK hop;have:=ht e he;simp only at hb;rw[this]at hb;cases hb
    ·obtain⟨e,he,rfl⟩:=yK hop;simp only at hr;rcases bk_of_mute (Wg:=0) (hm e he)with h3 | h3 | ⟨a,q,h3,_⟩
     ·rw[ofEvent_loc_mark h3]at hr;cases hr
     ·rw[ofEvent_loc_mark h3]at hr;cases hr
     ·have:=hm e he;rw[h3]at this;simp[Event.mute]at this
    ·obtain⟨e,he,rfl⟩:=yK hop;exact ht e he
   ·rw[List.length_set,<-X.gsz];simp[kW]
   ·intro i z hz;rcases yH hz with⟨rfl,rfl⟩ | ⟨hi,hz⟩
    ·exact⟨rfl,rfl,g',HA hk,by rw[Deaf_own];exact h2⟩
    ·obtain⟨h3,h4,o,ho,hq⟩:=X.sit i z hz;exact⟨h3,h4,o,KY (Ne.symm hi) ho hq.status,by rw[UE _ _ es (Ne.symm hi)];exact hq⟩
   ·rw[DF X.g0,BO (.inl hr)]
   ·rw[Deaf_other t (by omega) _ g_of_ofEvents];exact X.deaf
theorem Out.awake(X:Out P S w0 h g0 T gs w t)(hr:g0.status=.running):∀g∈gs,awake g:=by
 intro g hg2 tm;obtain⟨i,hi⟩:=Array.mem_iff_getElem?.1 hg2;cases i with
 | zero=>
  rw[X.g0]at hi;cases hi
  rw[hr];simp
 | succ i=>
  have hlt:i<T.length:=by
   have:=(Array.getElem?_eq_some_iff.1 hi).1;rw[X.gsz]at this;omega
  obtain⟨_,_,g',hg',hq⟩:=X.sit i _ (List.getElem?_eq_getElem hlt);rw[hi]at hg';cases hg'
  rcases hq.status with h | h <;> rw[h] <;> simp
theorem Out.Av(hr:g0.status=.running)(hM:∀T' gs w t sl,Out P S w0 h g0 T' gs w t->Ju P Good gs w sl t)(X:Out P S w0 h g0 T gs w t)(sl:Option (Nat×Nat)):Runs P Good (crowd gs w sl) t:=
 Eng.Av (I:=fun T gs w t=>Out P S w0 h g0 T gs w t) (T0:=T) (fun T gs w t d X=>X.at d) (fun T gs w t X=>X.awake hr) (fun T gs w t X=>⟨0,g0,X.g0,hr⟩)
  (fun T gs w t sl k g X hk hg=>X.worker hr hk hg) (fun T' gs w t sl g _ X _ _=>hM T' gs w t sl X) T gs w t sl (.refl T) X
theorem Out.S3(X:Out P S w0 h g0 T gs w t)(K:Kept S h h' w w')(hes:∀e∈es,Ai S h w w' e)(fn:FuncId)(pos:String):Out P S w0 h' g1 T (xN P gs g0 g1 w') w' (t++MemOp.ofEvents 0 fn pos es):=by
 refine⟨X.C.main K hes fn pos,by rw[<-X.gsz];simp[xN],fun k x hx=>?_,Cx X.g0,?_⟩
 ·obtain⟨h1,h2,o,ho,hq⟩:=X.sit k x hx;exact⟨h1,h2,o,Cy ho hq.status,by rw[Deaf_other t (by omega) _ g_of_ofEvents];exact hq⟩
 ·rw[Deaf_own,X.deaf];refine deafBehind_idle (fun e he=>?_) _;rcases hes e he with⟨a,h1,_⟩ | ⟨m,hm,rfl⟩
  ·rw[h1];exact⟨by simp,by simp⟩
  ·cases m <;> simp[Quiet]at hm ⊢
theorem Out.enter{zs:Array Value}(hΦ:PhOk Φ S h zs)(ha:Apart h f)(X:Out P S w0 (plus h f) g0 T gs w t):Iop P Φ T.length 0 (plus (Φ.rest h) f) w0 (MO False 0) 0 g0 T gs w t:=by
 have held:∀ {b:Nat},h b≠none->plus h f b≠none:=fun hb hn=>hb (ye.1 hn).1
 have hfW:f Φ.Wg=none:=by
  cases e:f Φ.Wg with
  | none=>rfl
  | some o=>have:=ha Φ.Wg (by rw[e];simp);rw[hΦ.wg]at this;cases this
 have hfC:f Φ.C=none:=by
  cases e:f Φ.C with
  | none=>rfl
  | some o=>have:=ha Φ.C (by rw[e];simp);rw[hΦ.arr]at this;cases this
 have sub:Sub (plus (Φ.rest h) f) (plus h f):=PE (fun b o hb=>by
  unfold Ph.rest at hb
  split at hb
  ·cases hb
  ·exact hb) ha
 have noE:∀ {k:Nat} {x:WS},T[k]? = some x->∀b,x.heap b=none:=fun hx b=>by rw[(X.sit _ _ hx).1];rfl
 have kn:∀(i:Nat) (a:Touch) (ad:Addr),touchAt t i=some a->a.loc=.cell ad->plus h f ad.block≠none->Knows t 0 i:=fun i a ad h1 h2 h3=>by
  rcases X.C.kn i a ad h1 h2 h3 with h4 | ⟨_,_,_,q,h5,h6⟩
  ·exact h4
  ·obtain⟨op,ho,rfl⟩:=Option.map_eq_some_iff.1 h6;have:=X.C.gsb i op ho;omega
 have hwW:WgAt Φ.ty Φ.Wg w 0 0:=X.C.has Φ.Wg _ (by simp[plus,hΦ.wg]);have hwC:w.heap[Φ.C]? = some (.cells zs Φ.ety):=X.C.has Φ.C _ (by simp[plus,hΦ.arr]);refine⟨⟨X.C.env,X.C.has.sub sub,fun b hb hn=>hΦ.held b hb (ye.1 hn).1,X.C.hasW,fun i x hx b _ hb=>absurd (noE hx b) hb,fun i q x y hx _ _ b _ hb=>absurd (noE hx b) hb,X.C.nr,X.C.gsb,X.C.lo,X.C.norel,fun i a ad h1 h2 h3=>.inl (kn i a ad h1 h2 fun hn=>?_),fun k x hx i a ad _ _ hb=>absurd (noE hx _) hb,X.C.ho⟩,?_,⟨0,0,hwW,⟨?_,?_,?_⟩,False.elim⟩,X.g0,X.deaf⟩
 ·obtain⟨h4,h5⟩:=ye.1 hn;refine h3 (ye.2 ⟨?_,h5⟩);unfold Ph.rest;split
  ·rfl
  ·exact h4
 ·refine⟨rfl,Nat.zero_le _,X.gsz,fun k x hx=>?_,fun k x hx _=>(X.sit k x hx).2.1,hΦ.ne,⟨ye.2 ⟨by simp[Ph.rest],hfW⟩,ye.2 ⟨by simp[Ph.rest],hfC⟩⟩,fun k x hx=>⟨noE hx _,noE hx _⟩,⟨?_,?_⟩,⟨zs,hwC,hΦ.size⟩,fun i a ad h1 h2 h3=>.inr fun k hk=>?_,fun off i a _ h1 h2=>?_,fun k x hx h8=>?_,fun i a ad h1 h2 h3=>.inl ?_,fun k x hx hk=>?_,fun k x hx hk=>?_⟩
  ·obtain⟨h1,h2,o,ho,hq⟩:=X.sit k x hx;obtain⟨s,rk,m,hp⟩:=x;simp only at h1 h2 hq;subst h1 h2;exact⟨o,ho,.quit hq⟩
  ·exact X.C.has.lt (b:=Φ.Wg) (by simp[plus,hΦ.wg];rfl)
  ·exact X.C.has.lt (b:=Φ.C) (by simp[plus,hΦ.arr];rfl)
  ·obtain rfl:k=0:=by omega
   exact kn i a ad h1 h2 (held (by rw[h3,hΦ.wg];simp))
  ·exact kn i a _ h1 h2 (held (by rw[hΦ.arr];simp))
  ·have:=(X.sit k x hx).2.1;omega
  ·exact kn i a ad h1 h2 (held (by rw[h3,hΦ.arr];simp))
  ·have:=(List.getElem?_eq_some_iff.1 hx).1;omega
  ·have:=(List.getElem?_eq_some_iff.1 hx).1;omega
 ·have:V T=0:=by
   unfold V;refine List.countP_eq_zero.2 fun x hx=>?_
   obtain⟨k,hk⟩:=List.getElem?_of_mem hx;simp[(X.sit k x hk).2.1]
  rw[this];simp
 ·rfl
 ·exact fun k x hx=>by have:=(X.sit k x hx).2.1;omega
theorem Iop.join(hsub:∀b,S b->Φ.S b)(X:Iop P Φ N0 Φ.n h w0 (MO True 0) 0 g0 T gs w t)(fn:FuncId)(pos:String):Out P S w0 (upd h Φ.C (.cells Φ.vals Φ.ety)) g1 T (xN P gs g0 g1 w) w (t++MemOp.ofEvents 0 fn pos #[Go.ConcR.mk (.acquire (stA Φ.Wg))]):=by
 obtain⟨st,sm,hw,⟨_,hall⟩⟩:=X.wg;have hall:=hall trivial;have emps:∀ {k:Nat} {x:WS},T[k]? = some x->x.heap=emp/\∃g,gs[k+1]? = some g/\QuitsD P x.fuel (Deaf t (k+1)) g:=fun {k x} hx=>by
  obtain⟨g,hg,hs⟩:=X.I.sit k x hx;have h1:=hall k x hx;generalize Deaf t (k+1)=d at hs ⊢;cases hs <;> simp at h1
  case quit hq=>exact⟨rfl,g,hg,hq⟩
 have X2:Iop P Φ N0 Φ.n h w0 (MO True 0) 0 g1 T (xN P gs g0 g1 w) w (t++MemOp.ofEvents 0 fn pos #[Go.ConcR.mk (.acquire (stA Φ.Wg))]):=X.book (Aside.refl _ _) hw ⟨‹_›,fun _=>hall⟩ (FP (.inr (.inr (.inr (.inr rfl))))) fn pos;have eu:MemOp.ofEvents 0 fn pos #[Go.ConcR.mk (.acquire (stA Φ.Wg))]=#[{ g:=0,fn,pos,act:=.mark (.acquire (stA Φ.Wg)) }]:=by rw[ofEvents_eq];simp[ofEvent_mk]
 generalize hu:MemOp.ofEvents 0 fn pos #[Go.ConcR.mk (.acquire (stA Φ.Wg))]=u at X2 eu ⊢;have hlast:(t++u)[t.size]? = some { g:=0,fn,pos,act:=.mark (.acquire (stA Φ.Wg)) }:=by rw[eu];simp
 have hq:(t++u).act? t.size=some (.mark (.acquire (stA Φ.Wg))):=by rw[act?_of hlast]
 have hqh:(t++u).heard t.size:=⟨0,by simp[Trace.g?,hlast],by rw[deaf_old (Nat.le_refl _)];exact X.deaf⟩;have nt:∀op∈u,op.act.touch? = none:=fun op hop=>by
  rw[eu]at hop;simp only[List.mem_toArray,List.mem_singleton]at hop;subst hop;rfl
 have oldt:∀ {i:Nat} {a:Touch},touchAt (t++u) i=some a->i<t.size/\touchAt t i=some a:=fun ha=>by
  rcases yu ha with h | ⟨op,h1,h2,_⟩
  ·exact h
  ·rw[nt op h1]at h2;cases h2
 have joined:∀(i k:Nat),t.g? i=some k->N0<k->t.counts i->Knows (t++u) 0 i:=by
  intro i k hg hk hcn;obtain⟨op,ho,rfl⟩:=Option.map_eq_some_iff.1 hg;have hle:=X.C.gsb i op ho;have hx:T[op.g-1]? = some T[op.g-1]:=List.getElem?_eq_getElem (by omega);obtain⟨r,hr⟩:=X.I.rel (op.g-1) _ hx (by omega) (by rw[hall _ _ hx];omega);rw[show op.g-1+1=op.g by omega]at hr;have hrt:r<t.size:=lt_of_act? hr.act;have hile:i<=r:=Nat.le_of_not_lt fun hlt=>hr.after i hlt hg hcn
  have edge:HappensBefore (t++u) r t.size:=.single (.inr ⟨.marked (a:=stA Φ.Wg) hrt (.inr (by rw[act?_old hrt];exact hr.act)) hq (fun q _ _=>X2.C.norel q _),(heard_old hrt).2 hr.heard,hqh⟩);have hit:i<t.size:=lt_size_of_getElem? ho;refine⟨t.size,_,hlast,rfl,.inr ?_⟩;rcases Nat.lt_or_ge i r with hlt | hge
  ·exact .trans (.single (.inl ⟨hlt,op.g,by rw[g?_old hit];exact hg,by rw[g?_old hrt];exact hr.g⟩)) edge
  ·obtain rfl:i=r:=by omega
   exact edge
 have countP:∀ {i:Nat} {a:Touch},touchAt t i=some a->a.kind=.plain->t.counts i:=fun {i a} ha hk=>by
  obtain⟨ad,e,_⟩:=X.C.lo i a ha;exact⟨a,ha,by rw[e];rfl,.inl (by rw[hk];simp)⟩
 have hC:w.heap[Φ.C]? = some (.cells Φ.vals Φ.ety):=by
  obtain⟨cs,hc1,hc2⟩:=X.I.pay;rw[hc1];congr 2;refine Array.ext (by simp[Ph.vals,hc2]) fun i h1 h2=>?_
  have hl:=X.I.len;have hx:T[N0+i]? = some T[N0+i]:=List.getElem?_eq_getElem (by omega);have:=X.I.vals (N0+i) _ hx (by omega) (by rw[hall _ _ hx];omega);rw[show N0+i-N0=i by omega]at this;simp only[World.cell?,hc1]at this;simp only[Ph.vals,List.getElem_toArray,List.getElem_map,List.getElem_range];simp[h1]at this;exact this
 refine⟨⟨X2.C.env,fun b o hb=>?_,fun b hb=>?_,X2.C.hasW,fun i x hx b _ hb=>?_,fun i q x y hx _ _ b _ hb=>?_,X2.C.nr,X2.C.gsb,X2.C.lo,X2.C.norel,fun i a ad h1 h2 h3=>.inl ?_,fun k x hx i a ad _ _ hb=>?_,fun i k hg hk _ hcn=>?_⟩,X2.I.gsz,fun k x hx=>?_,X2.g0,X2.deaf⟩
 ·by_cases e:b=Φ.C
  ·subst e;rw[upd_same']at hb;cases hb;exact hC
  ·rw[upd_ne' e]at hb;exact X.C.has b o hb
 ·by_cases e:b=Φ.C
  ·subst e;rw[upd_same'];simp
  ·rw[upd_ne' e];exact X.C.inv b (hsub b hb)
 ·rw[(emps hx).1]at hb;exact absurd rfl hb
 ·rw[(emps hx).1]at hb;exact absurd rfl hb
 ·obtain⟨hit,h4⟩:=oldt h1;by_cases e:ad.block=Φ.C
  ·rcases X.I.cC i a ad h4 h2 e with h5 | ⟨h5,q,h6,h7⟩
   ·exact jh h5
   ·exact joined i q h7 h6 (countP h4 h5)
  ·rw[upd_ne' e]at h3;rcases X.C.kn i a ad h4 h2 h3 with h5 | ⟨_,_,h5,q,h6,h7⟩
   ·exact jh h5
   ·exact joined i q h7 h6 (countP h4 h5)
 ·rw[(emps hx).1]at hb;exact absurd rfl hb
 ·rcases g?_cases hg with⟨hit,h1⟩ | ⟨op,h1,rfl,h2⟩
  ·have hcn':=(counts_old hit).1 hcn;by_cases hkN:N0<k
   ·exact joined i k h1 hkN hcn'
   ·exact jh (X.C.ho i k h1 hk (by omega) hcn')
  ·obtain⟨x,hx,_⟩:=hcn;simp[Trace.act?,h2,nt op h1]at hx
 ·obtain⟨h1,g,hg,hs⟩:=emps hx;refine⟨h1,hall k x hx,g,Cy hg hs.status,?_⟩;have:Deaf (t++u) (k+1)=Deaf t (k+1):=by rw[<-hu];exact Deaf_other t (by omega) _ g_of_ofEvents
  rw[this];exact hs
end
end Go.Eng
namespace Go.Eng
open Go Go.Conc
open Go.ConcN hiding upd upd_same upd_ne
open Go.ConcR (KK wgBlock WgAt stA smA rd wr g_of_ofEvents Bk DC0 bk_of_mute ofEvent_loc_mark ofEvent_cell ofEvent_mk deafBehind_cons deafBehind_one)
variable {fr:Frame}{v:Value}
section
variable {P:Program}{S:Shared}{h h' : Heap}{T:List WS}{gs:Array Goroutine}{w0 w w' : World}{t:Trace}{es:Array Event}{sl:Option (Nat × Nat)}{g0 g1:Goroutine}
  {Good:Machine -> Outcome -> World -> Trace -> Prop}
theorem Z0(hbig:∀fr cs h Q,S.big fr cs h Q->Phase P S fr cs h Q){Post:Frame->List Frame->Heap->Prop}{cs:List Frame}(H:Safe P S Post fr cs h):∀(T:List WS) (gs:Array Goroutine) (w:World) (t:Trace) (sl:Option (Nat×Nat)),
  Out P S w0 h (gor fr cs) T gs w t ->
  (∀fr' cs' h' T' gs' w' t' sl',Post fr' cs' h'->(∀b,S b->h' b=h b)->Out P S w0 h' (gor fr' cs') T' gs' w' t'->Runs P Good (crowd gs' w' sl') t')->Runs P Good (crowd gs w sl) t:=by
 induction H with
 | done p=>exact fun T gs w t sl X K=>K _ _ _ T gs w t sl p (fun _ _=>rfl) X
 | step fr' cs' w' es h' hs _ ih=>
  intro T gs w t sl X K;refine X.Av rfl (fun T' gs w t sl X=>?_) sl;obtain⟨h1,h2,h3⟩:=hs w true X.C.has;exact .inl ⟨_,_,CR X.g0 h1,ih w true X.C.has T' _ _ _ sl (X.S3 h2 h3 _ _) fun fr2 cs2 h2' T2 gs2 w2 t2 sl2 p hro=>K fr2 cs2 h2' T2 gs2 w2 t2 sl2 p fun b hb=>(hro b hb).trans (h2.ro b hb)⟩
 | @big fr cs h h0 f Q e ha hb _ ih=>
  subst e;intro T gs w t sl X K;obtain⟨Φ,zs,hΦ,hsp⟩:=hbig _ _ _ _ hb;have har:Apart (Φ.rest h0) f:=Nm (fun b o hb=>by
   unfold Ph.rest at hb
   split at hb
   ·cases hb
   ·exact hb) ha
  refine za2 hΦ.nobig hΦ.small Φ.n 0 fr cs _ T gs w t sl (by omega) (Sp.frame Φ.n har hsp) (X.enter hΦ ha) fun h' g' T' gs' w' t' sl' hro hst X=>?_
  have s1:Bj T.length Φ.n (MO True 0):=MO.shut (n:=Φ.n) (by omega) hΦ.small;refine X.stop s1 (hst w' X.J).1 sl' fun T'' gs w t sl _ X=>?_
  obtain⟨_,fr',cs',hs,h1,hQ,ha1,rfl⟩:=hst w X.J;have fC:f Φ.C=none:=by
   cases e:f Φ.C with
   | none=>rfl
   | some o=>have:=ha Φ.C (by rw[e];simp);rw[hΦ.arr]at this;cases this
  have eh:upd (plus h1 f) Φ.C (.cells Φ.vals Φ.ety)=plus (upd h1 Φ.C (.cells Φ.vals Φ.ety)) f:=by
   funext b;by_cases e:b=Φ.C
   ·subst e;simp[upd,plus]
   ·simp[upd,plus,e]
  have agr:∀b,S b->upd h1 Φ.C (.cells Φ.vals Φ.ety) b=h0 b:=fun b hb=>by
   have hn:=hΦ.held b (hΦ.sub b hb);have hr:Φ.rest h0 b=h0 b/\b≠Φ.C:=by
    unfold Ph.rest at hn ⊢;split at hn
    ·exact absurd rfl hn
    ·rename_i hc;rw[if_neg hc];exact⟨rfl,fun e=>hc (.inr e)⟩
   have h2:=hro b (hΦ.sub b hb);have h0n:h0 b≠none:=by rw[<-hr.1];exact hn
   have fb:f b=none:=by
    cases e:f b with
    | none=>rfl
    | some o=>exact absurd (ha b (by rw[e];simp)) h0n
   rw[upd_ne' hr.2];have e1:plus h1 f b=h1 b:=by unfold plus;cases h1 b <;> simp[fb]
   have e2:plus (Φ.rest h0) f b=Φ.rest h0 b:=by unfold plus;cases Φ.rest h0 b <;> simp[fb]
   rw[<-e1,h2,e2,hr.1]
  have ap2:Apart (upd h1 Φ.C (.cells Φ.vals Φ.ety)) f:=fun b hb=>by
   by_cases e:b=Φ.C
   ·subst e;exact absurd fC hb
   ·rw[upd_ne' e];exact ha1 b hb
  have X2:=X.join (S:=S) (g1:=gor fr' cs') hΦ.sub g'.frame.fn g'.frame.place;rw[eh]at X2;refine⟨_,w,_,hs,ih fr' cs' _ hQ ap2 agr T'' _ w _ sl X2 fun fr2 cs2 h2' T2 gs2 w2 t2 sl2 p hro2=>K fr2 cs2 h2' T2 gs2 w2 t2 sl2 p fun b hb=>?_⟩;rw[hro2 b hb];unfold plus;rw[agr b hb]
theorem Wq{o:Outcome}(h0:gs[0]? = some g0)(hs:stepG P true g0 w=.ended o w' es):runT P (crowd gs w sl) 0=(.ended o w',MemOp.ofEvents 0 g0.frame.fn g0.frame.place es):=by
 obtain⟨hlt,rfl⟩:=Array.getElem?_eq_some_iff.1 h0;have hsw:=swapAt_of_lt hlt { (default:Goroutine)with status:=.finished };show runT P { world:=w,gs:=gs,rest:={ timers:=#[],alone:=none,slice:=sl } } 0=_;unfold runT;simp only[hsw,beq_self_eq_true,hs,GStep.es]
theorem Leaves.ended(H:Leaves P S fr h v)(hin:P.inits.idxOf? fr.fn=none)(hw:Has w h):∃es,stepG P true (gor fr []) w=.ended (.done v) w es/\∀e∈es,Ai S h w w e:=by
 obtain⟨hm,hd,hk,fn,hf,hr⟩:=H;obtain⟨n,w',es,e1,⟨rfl,rfl⟩,_,e3⟩:=Lu _ (hr w hw) #[];refine⟨seen P fr.fn (if false then #[]else es),?_,Om false e3⟩;rw[Sem.runT_eq]at e1;obtain⟨e1,e2⟩:=Prod.mk.inj e1;simp[stepG,gor,hm,unwind,hd,hf,e1,e2,GStep.after,doReturn,hk,hin]
theorem UF(w:World)(s:Nat->Prop)(hs:∀b,s b->b<w.heap.size)(P:Program)(g:Goroutine):Out P (jz P s) w (kF w) g [] #[g] w #[]:=by
 have nt:∀(i:Nat) (a:Touch),touchAt (#[]:Trace) i=some a->False:=fun i a h=>by simp[touchAt,Trace.act?]at h
 refine⟨⟨⟨rfl,rfl,rfl⟩,MK w,fun b hb hn=>?_,fun i x hx=>by simp at hx,fun i x hx=>by simp at hx,fun i j x y hx=>by simp at hx,fun said=>noRace_nil said,fun i op h=>by simp at h,fun i a h=>(nt i a h).elim,fun i a h=>by simp[Trace.act?]at h,fun i a ad h=>(nt i a h).elim,fun k x hx=>by simp at hx,fun i k h=>by simp[Trace.g?]at h⟩,rfl,fun k x hx=>by simp at hx,rfl,rfl⟩;have:w.heap[b]? = none:=hn;rw[Array.getElem?_eq_none_iff]at this;have:=hs b hb;omega
theorem Wr{f:FuncId}{args:Array Value}(H:zb P (jz P fun b=>b<w.heap.size) f args (kF w) (fun u _=>u=v))(hin:P.inits.idxOf? f=none)(hb:((P.funcs[f]?).any fun fn=>fn.body.isSome&&fn.name != "runtime.NumGoroutine")=true) :
  ∃N last o w' t',runNT P (N+1) (solo (G (Frame.enter P f args .normal) []) w) #[]=(.ended o w',t')/\runN P N (solo (G (Frame.enter P f args .normal) []) w)=.next last/\Go.step P last=.ended o w' /\
   Conc.Good P (fun u w'=>u=v/\Go.RowKit.Below w.heap.size w w') last o w' t':=by
 replace H:=H.enters hb (MK w);have key:Runs P (fun m o w' t'=>Conc.Good P (fun u w'=>u=v/\Go.RowKit.Below w.heap.size w w') m o w' t') (crowd #[gor (Frame.enter P f args .normal) []] w none) #[]:=by
  refine Z0 (w0:=w) (fun _ _ _ _ h=>h) (H.2 []) [] #[gor (Frame.enter P f args .normal) []] w #[] none (UF w _ (fun _ h=>h) P _) ?_;rintro fr cs h' T gs w' t sl ⟨rfl,hfn,u,h1,rfl,_,_,hl⟩ hro X;refine X.Av rfl (fun T gs w' t sl X=>.inr ?_) sl;obtain⟨es,e1,e2⟩:=hl.ended (by rw[hfn];exact hin) X.C.has;refine⟨_,w',_,Wq X.g0 e1,fun w2 sl2=>?_⟩;have X2:=X.S3 (g1:=gor fr []) (Kept.refl X.C.has) e2 (gor fr []).frame.fn (gor fr []).frame.place;refine⟨u,rfl,⟨rfl,X.C.env.1,X.C.env.2.1,X.C.env.2.2,?_,fun b hb=>?_⟩,X2.C.nr,fun i g hg hne hc=>?_,⟨fun g hg=>?_,rfl⟩,fun i g hg hne=>?_⟩
  ·rcases Nat.eq_zero_or_pos w.heap.size with h0 | h0
   ·omega
   ·have hb:w.heap.size-1<w.heap.size:=by omega
    have h3:=hro (w.heap.size-1) hb;have h4:kF w (w.heap.size-1)=some w.heap[w.heap.size-1]:=by simp[kF,hb]
    rw[h4]at h3;have:=X.C.has.lt h3;omega
  ·have h3:=hro b hb;have h4:kF w b=some w.heap[b]:=by simp[kF,hb]
   rw[h4]at h3;rw[X.C.has b _ h3];simp[hb]
  ·obtain⟨op,ho,rfl⟩:=Option.map_eq_some_iff.1 hg;obtain⟨q,z,hq,hz,hbf⟩:=X2.C.ho i op.g hg hne (X2.C.gsb i op ho) hc;refine⟨q,by simp[Trace.g?,hq,hz],?_⟩;rcases hbf with rfl | hb
   ·rw[ho]at hq;cases hq;exact absurd hz hne
   ·exact hb
  ·obtain⟨k,hk⟩:=List.getElem?_of_mem hg;rw[List.getElem?_drop,Array.getElem?_toList]at hk;have hkl:k<T.length:=by
    have:=(Array.getElem?_eq_some_iff.1 hk).1;have h3:gs.size=T.length+1:=X.gsz;have h4:(crowd gs w2 sl2).gs.size=gs.size:=rfl;omega
   obtain⟨_,_,o,ho,hq⟩:=X.sit k _ (List.getElem?_eq_getElem hkl);have hk':gs[k+1]? = some g:=by rw[Nat.add_comm];exact hk
   rw[hk']at ho;cases ho
   exact⟨_,hq.leaves⟩
  ·have hk':gs[i]? = some g:=hg;obtain⟨k,rfl⟩:∃k,i=k+1:=⟨i-1,by omega⟩;have hkl:k<T.length:=by
    have:=(Array.getElem?_eq_some_iff.1 hk').1;have h3:gs.size=T.length+1:=X.gsz;omega
   obtain⟨_,_,o,ho,hq⟩:=X.sit k _ (List.getElem?_eq_getElem hkl);rw[hk']at ho;cases ho
   refine⟨T[k].fuel,?_⟩;have e:(t++MemOp.ofEvents 0 (gor fr []).frame.fn (gor fr []).frame.place es).deaf (k+1) (t++MemOp.ofEvents 0 (gor fr []).frame.fn (gor fr []).frame.place es).size=Deaf t (k+1):=Deaf_other t (by omega) _ g_of_ofEvents;show g.endsWith P w2 T[k].fuel ((t++MemOp.ofEvents 0 (gor fr []).frame.fn (gor fr []).frame.place es).deaf (k+1) (t++MemOp.ofEvents 0 (gor fr []).frame.fn (gor fr []).frame.place es).size)=some 0;rw[e];exact hq.hears w2
 exact key.run
end
end Go.Eng
end
section
namespace Go.Eng
open Go Go.Conc Go.RowKit Go.Conc.Lib Go.ConcR.Gen Go.ConcN.Gen
open Go.ConcN hiding upd upd_same upd_ne AtD4 AtD3 AtD2 AtD1 AtK1 AtR0 AtAcq AtKe AtW4 AtW3 AtW2 AtW1 AtKd WSit AtA1
open Go.ConcR (KK wgBlock WgAt stA smA rd wr DC0 Payload)
variable {w:World}
section
variable [Payload]{P:Program}{L:WgLink}{Φ:Ph}{cs:List Frame}{qt:Nat}
theorem jl{w w₁:World}(_:Φ.J w)(h:Φ.J w₁):Φ.J w₁:=h
theorem J.cell0(h:Φ.J w):∃v,w.cell? ⟨Φ.Wg,0,none⟩=some v:=WgLive.cell0 h.1
theorem J.cell1(h:Φ.J w):∃v,w.cell? ⟨Φ.Wg,1,none⟩=some v:=WgLive.cell1 h.1
variable {b₀:Frame}{a₀:Act}{ops₀:Array Oper}{i₀:Nat}{rest₀:List Nat}{k₀:List Item}
theorem J.setSt(hCW:Φ.C≠Φ.Wg)(h:Φ.J w){st sm:Int}(hw:WgAt Φ.ty Φ.Wg w st sm)(v:Int):Φ.J (w.setCell (stA Φ.Wg) (.int .u64 v)):=by
 obtain⟨cs,h1,h2⟩:=h.2;exact⟨⟨v,sm,hw.setSt v⟩,cs,((aside_setCell w (stA Φ.Wg) _).block _ hCW).trans h1,h2⟩
theorem J.setSm(hCW:Φ.C≠Φ.Wg)(h:Φ.J w){st sm:Int}(hw:WgAt Φ.ty Φ.Wg w st sm)(v:Int):Φ.J (w.setCell (smA Φ.Wg) (.int .u32 v)):=by
 obtain⟨cs,h1,h2⟩:=h.2;exact⟨⟨st,v,hw.setSm v⟩,cs,((aside_setCell w (smA Φ.Wg) _).block _ hCW).trans h1,h2⟩
theorem Ys(H:WgLib P L)(hCW:Φ.C≠Φ.Wg){Nx:Frame->List Frame->Prop}(hN:Nx (b₀.at (a₀.put ((ops₀[i₀]?).bind (·.dst)) (.tuple #[])) (.inRegion ops₀ rest₀::k₀)) cs)(w:World)(hK:Φ.J w) :
  Goes P true (fun _ w₁=>Φ.J w₁) DC0 (Mp P Φ Nx) 100
   (G ((base L.add).at ⟨#[.pointer (some ⟨Φ.Wg,0,none⟩),.int .i64 1,undef,undef,undef,undef,undef,undef,undef,undef,undef,undef,undef,undef,undef,undef,undef,undef,undef,undef,undef,undef,undef,undef,undef,undef,undef,undef,undef,undef,undef,undef,undef,undef,undef,undef,undef,undef,undef,undef,undef,undef,undef,undef,undef,undef,undef,undef,undef,undef,undef,undef,undef,undef,undef,undef,undef,undef,undef,undef,undef,undef,undef,undef,undef,undef,undef,undef,undef,undef,undef,undef,undef,undef,undef,undef,undef,undef,undef,undef,undef,undef,undef,undef,undef,undef,undef,undef,undef,undef,undef,undef,undef,undef,undef,undef,undef,undef,undef,undef,undef,undef,undef,undef,undef,undef,undef,undef,undef,undef,undef,undef,undef,undef,undef,undef,undef],[]⟩ [.code (body_add L)]) (b₀.at a₀ (.inRegion ops₀ (i₀::rest₀)::k₀)::cs)) w:=by
 lib_facts
 simp only[body_add,addFn,Option.getD_some];u_c stepG_seq jl hK;u_cond true jl hK;iterate 2 u_c stepG_seq jl hK
 u_reg jl hK;iterate 2 u_op jl hK
 u_c stepG_region_end jl hK;u_cond false jl hK;u_c stepG_skip jl hK;u_c stepG_seq jl hK;u_reg jl hK;refine Goes.stop (fun w₁ h₁=>?_);replace hK:=jl hK h₁;clear h₁;refine⟨rfl,_,stepG_mark0 .disable (by simp) rfl rfl (by k_ne) rfl H.f_disable (x_disable_n L) (x_disable_b L) (x_disable_x L) (x_disable_f L),100,Sil.of (w:=w₁) ?_⟩;walk_nrm;u_c stepG_region_end jl hK;u_reg jl hK;u_defer jl hK;u_c stepG_region_end jl hK;u_c stepG_seq jl hK;u_reg jl hK;u_op jl hK;u_c stepG_region_end jl hK;iterate 2 u_c stepG_seq jl hK
 u_reg jl hK;u_bub jl hK;u_c stepG_region_end jl hK;u_cond false jl hK;u_c stepG_skip jl hK;u_c stepG_seq jl hK;u_reg jl hK;iterate 6 u_op jl hK
 u_call H.f_uAdd (nm_uAdd L) uAddFn jl hK;u_c stepG_seq jl hK;u_reg jl hK;u_op jl hK;u_c stepG_region_end jl hK;u_c stepG_seq jl hK;u_reg jl hK;iterate 4 u_op jl hK
 refine Goes.stop (fun w₁ h₁=>?_);replace hK:=jl hK h₁;clear h₁;refine⟨rfl,fun v hv hw=>?_⟩;have e0:IntKind.u64.wrap ((v:Int)*KK+4294967296)=((v:Int)+1)*KK:=by rw[IntKind.wrap_u64];simp only[KK];omega
 refine⟨_,(stepG_add_atomic rfl rfl (by k_ne) rfl H.f_addU64 (x_addU64_n L) (x_addU64_b L) (x_addU64_x L) .u64 (x_addU64_f L) rfl rfl hw.cellSt (hw.thaw 0)).trans (by rw[e0];rfl),fun hv0=>⟨200,?_⟩,fun hv0=>⟨200,?_⟩⟩
 ·subst hv0;replace hK:=J.setSt hCW hK hw ((((0:Nat):Int)+1)*KK);refine Sil.of (w:=w₁.setCell (stA Φ.Wg) (.int .u64 ((((0:Nat):Int)+1)*KK))) ?_;generalize w₁.setCell (stA Φ.Wg) (.int .u64 ((((0:Nat):Int)+1)*KK))=w₂ at hK;clear hw;have z:(((0:Nat):Int)+1)*KK=4294967296:=by simp[KK]
  rw[z];walk_nrm;u_op jl hK;u_c stepG_region_end jl hK;u_c stepG_ret' jl hK;u_leave1 H.f_uAdd jl hK;u_op jl hK;u_c stepG_region_end jl hK;iterate 2 u_c stepG_seq jl hK
  u_reg jl hK;iterate 4 u_op jl hK
  iterate 2 u_skip jl hK
  u_op jl hK;u_c stepG_region_end jl hK;u_cond false jl hK;u_c stepG_skip jl hK;u_c stepG_seq jl hK;u_reg jl hK;iterate 4 u_op jl hK
  u_c stepG_region_end jl hK;u_c stepG_seq jl hK;u_reg jl hK;iterate 4 u_op jl hK
  u_c stepG_region_end jl hK;iterate 2 u_c stepG_seq jl hK
  u_reg jl hK;iterate 10 u_op jl hK
  u_c stepG_region_end jl hK;u_cond true jl hK;u_reg jl hK;iterate 3 u_op jl hK
  u_conv H.underlying_tPU32 H.room_tU32 (J.cell1 hK).choose_spec jl hK;refine Goes.stop (fun w₁ h₁=>?_);replace hK:=jl hK h₁;clear h₁;refine⟨rfl,_,stepG_markAt .read (by simp) rfl rfl (by k_ne) rfl H.f_raceRead (x_raceRead_n L) (x_raceRead_b L) (x_raceRead_x L) (x_raceRead_f L) (ad:=⟨Φ.Wg,1,none⟩) (by simp[Act.eval]),200,Sil.of (w:=w₁) ?_⟩;walk_nrm;u_c stepG_region_end jl hK;iterate 2 u_c stepG_seq jl hK
  u_reg jl hK;iterate 2 u_op jl hK
  u_c stepG_region_end jl hK;u_cond false jl hK;u_c stepG_skip jl hK;iterate 2 u_c stepG_seq jl hK
  u_reg jl hK;iterate 3 u_op jl hK
  iterate 2 u_skip jl hK
  iterate 2 u_op jl hK
  iterate 4 u_skip jl hK
  u_op jl hK;u_c stepG_region_end jl hK;u_cond false jl hK;u_c stepG_skip jl hK;iterate 2 u_c stepG_seq jl hK
  u_reg jl hK;iterate 3 u_op jl hK
  iterate 2 u_skip jl hK
  u_op jl hK;u_c stepG_region_end jl hK;u_cond true jl hK;u_c stepG_ret' jl hK;refine Goes.stop (fun w₁ h₁=>?_);replace hK:=jl hK h₁;clear h₁;refine⟨rfl,_,stepG_unwind_entry (v:=.tuple #[]) (evs:=#[Go.ConcR.mk .enable]) rfl H.f_enable (x_enable_n L) (x_enable_b L) (x_enable_x L) (x_enable_f L) (by simp[Extern.Race.none_]) (by simp[Go.ConcR.mk]) (by simp[Go.ConcR.mk]),10,Sil.of (w:=w₁) ?_⟩;u_leave0 H.f_add jl hK;exact Goes.stop fun _ _=>⟨_,_,rfl,hN⟩
 ·replace hK:=J.setSt hCW hK hw (((v:Int)+1)*KK);refine Sil.of (w:=w₁.setCell (stA Φ.Wg) (.int .u64 (((v:Int)+1)*KK))) ?_;generalize w₁.setCell (stA Φ.Wg) (.int .u64 (((v:Int)+1)*KK))=w₂ at hK;clear hw e0;obtain⟨V,hV⟩:∃V:Int,(v:Int)+1=V:=⟨_,rfl⟩;obtain⟨S,hS⟩:∃S:Int,V*KK=S:=⟨_,rfl⟩;have a1:S/4294967296=V:=by rw[<-hS];simp only[KK];omega
  have b1:bits .and .u64 S 2147483648=0:=by rw[<-hS,<-hV];have:=st_flag (v+1) 0 (by omega) (by omega);simpa[KK]using this
  have b2:bits .and .u64 S 2147483647=0:=by rw[<-hS,<-hV];have:=st_waiters (v+1) 0 (by omega) (by omega);simpa[KK]using this
  have c1:IntKind.i32.wrap V=V:=by rw[IntKind.wrap_i32];omega
  have q3:decide (V<0)=false:=decide_eq_false (by omega);have q4:decide (0<V)=true:=decide_eq_true (by omega);have q5:(V==1)=false:=by simp;omega
  have q6:decide (V=1)=false:=decide_eq_false (by omega);rw[hV,hS];walk_nrm;u_op jl hK;u_c stepG_region_end jl hK;u_c stepG_ret' jl hK;u_leave1 H.f_uAdd jl hK;u_op jl hK;u_c stepG_region_end jl hK;iterate 2 u_c stepG_seq jl hK
  u_reg jl hK;iterate 4 u_op jl hK
  iterate 2 u_skip jl hK
  u_op jl hK;u_c stepG_region_end jl hK;u_cnd false jl hK;u_c stepG_skip jl hK;u_c stepG_seq jl hK;u_reg jl hK;iterate 4 u_op jl hK
  u_c stepG_region_end jl hK;u_c stepG_seq jl hK;u_reg jl hK;iterate 4 u_op jl hK
  u_c stepG_region_end jl hK;iterate 2 u_c stepG_seq jl hK
  u_reg jl hK;iterate 10 u_op jl hK
  u_c stepG_region_end jl hK;u_cnd false jl hK;u_c stepG_skip jl hK;iterate 2 u_c stepG_seq jl hK
  u_reg jl hK;iterate 2 u_op jl hK
  u_c stepG_region_end jl hK;u_cnd false jl hK;u_c stepG_skip jl hK;iterate 2 u_c stepG_seq jl hK
  u_reg jl hK;iterate 3 u_op jl hK
  iterate 2 u_skip jl hK
  iterate 2 u_op jl hK
  iterate 4 u_skip jl hK
  u_op jl hK;u_c stepG_region_end jl hK;u_cnd false jl hK;u_c stepG_skip jl hK;iterate 2 u_c stepG_seq jl hK
  u_reg jl hK;iterate 3 u_op jl hK
  iterate 2 u_skip jl hK
  u_op jl hK;u_c stepG_region_end jl hK;u_cnd true jl hK;u_c stepG_ret' jl hK;refine Goes.stop (fun w₁ h₁=>?_);replace hK:=jl hK h₁;clear h₁;refine⟨rfl,_,stepG_unwind_entry (v:=.tuple #[]) (evs:=#[Go.ConcR.mk .enable]) rfl H.f_enable (x_enable_n L) (x_enable_b L) (x_enable_x L) (x_enable_f L) (by simp[Extern.Race.none_]) (by simp[Go.ConcR.mk]) (by simp[Go.ConcR.mk]),10,Sil.of (w:=w₁) ?_⟩;u_leave0 H.f_add jl hK;exact Goes.stop fun _ _=>⟨_,_,rfl,hN⟩
end
end Go.Eng
namespace Go.Eng
open Go Go.Conc Go.RowKit Go.Conc.Lib Go.ConcR.Gen Go.ConcN.Gen
open Go.ConcN hiding upd upd_same upd_ne AtD4 AtD3 AtD2 AtD1 AtK1 AtR0 AtAcq AtKe AtW4 AtW3 AtW2 AtW1 AtKd WSit AtA1
open Go.ConcR (KK wgBlock WgAt stA smA rd wr DC0 Payload)
section
variable [Payload]{P:Program}{L:WgLink}{Φ:Ph}{cs:List Frame}{qt:Nat}
variable {b₀:Frame}{a₀:Act}{ops₀:Array Oper}{i₀:Nat}{rest₀:List Nat}{k₀:List Item}
theorem Yt(H:WgLib P L)(hCW:Φ.C≠Φ.Wg)(hT:QuitsD P qt 0 (G (b₀.at (a₀.put ((ops₀[i₀]?).bind (·.dst)) (.tuple #[])) (.inRegion ops₀ rest₀::k₀)) cs))(w:World)(hK:Φ.J w) :
  Goes P false (fun _ w₁=>Φ.J w₁) DC0 (AtR0 P Φ) 100
   (G ((base L.add).at ⟨#[.pointer (some ⟨Φ.Wg,0,none⟩),.int .i64 (-1),undef,undef,undef,undef,undef,undef,undef,undef,undef,undef,undef,undef,undef,undef,undef,undef,undef,undef,undef,undef,undef,undef,undef,undef,undef,undef,undef,undef,undef,undef,undef,undef,undef,undef,undef,undef,undef,undef,undef,undef,undef,undef,undef,undef,undef,undef,undef,undef,undef,undef,undef,undef,undef,undef,undef,undef,undef,undef,undef,undef,undef,undef,undef,undef,undef,undef,undef,undef,undef,undef,undef,undef,undef,undef,undef,undef,undef,undef,undef,undef,undef,undef,undef,undef,undef,undef,undef,undef,undef,undef,undef,undef,undef,undef,undef,undef,undef,undef,undef,undef,undef,undef,undef,undef,undef,undef,undef,undef,undef,undef,undef,undef,undef,undef,undef],[]⟩ [.code (body_add L)]) (b₀.at a₀ (.inRegion ops₀ (i₀::rest₀)::k₀)::cs)) w:=by
 lib_facts
 simp only[body_add,addFn,Option.getD_some];u_c stepG_seq jl hK;u_cond true jl hK;iterate 2 u_c stepG_seq jl hK
 u_reg jl hK;iterate 2 u_op jl hK
 u_c stepG_region_end jl hK;u_cond true jl hK;u_reg jl hK;u_op jl hK;u_conv H.underlying_tWgP H.room_tWg (J.cell0 hK).choose_spec jl hK;refine Goes.stop (fun w₁ h₁=>?_);replace hK:=jl hK h₁;clear h₁;refine⟨rfl,_,stepG_markAt .releaseMerge (by simp) rfl rfl (by k_ne) rfl H.f_relMerge (x_relMerge_n L) (x_relMerge_b L) (x_relMerge_x L) (x_relMerge_f L) (by simp[Act.eval,stA]),100,Sil.of (w:=w₁) ?_⟩;walk_nrm;u_c stepG_region_end jl hK;u_c stepG_seq jl hK;u_reg jl hK;refine Goes.stop (fun w₁ h₁=>?_);replace hK:=jl hK h₁;clear h₁;refine⟨rfl,_,stepG_mark0 .disable (by simp) rfl rfl (by k_ne) rfl H.f_disable (x_disable_n L) (x_disable_b L) (x_disable_x L) (x_disable_f L),100,Sil.of (w:=w₁) ?_⟩;walk_nrm;u_c stepG_region_end jl hK;u_reg jl hK;u_defer jl hK;u_c stepG_region_end jl hK;u_c stepG_seq jl hK;u_reg jl hK;u_op jl hK;u_c stepG_region_end jl hK;iterate 2 u_c stepG_seq jl hK
 u_reg jl hK;u_bub jl hK;u_c stepG_region_end jl hK;u_cond false jl hK;u_c stepG_skip jl hK;u_c stepG_seq jl hK;u_reg jl hK;iterate 6 u_op jl hK
 u_call H.f_uAdd (nm_uAdd L) uAddFn jl hK;u_c stepG_seq jl hK;u_reg jl hK;u_op jl hK;u_c stepG_region_end jl hK;u_c stepG_seq jl hK;u_reg jl hK;iterate 4 u_op jl hK
 refine Goes.stop (fun w₁ h₁=>?_);replace hK:=jl hK h₁;clear h₁;refine⟨rfl,fun v wt hwt hv hw=>?_⟩;have e0:IntKind.u64.wrap (((v:Int)+1)*KK+wt+18446744069414584320)=(v:Int)*KK+wt:=by rw[IntKind.wrap_u64];simp only[KK];omega
 refine⟨_,(stepG_add_atomic rfl rfl (by k_ne) rfl H.f_addU64 (x_addU64_n L) (x_addU64_b L) (x_addU64_x L) .u64 (x_addU64_f L) rfl rfl hw.cellSt (hw.thaw 0)).trans (by rw[e0];rfl),fun hl=>?_,fun hl=>?_⟩
 ·obtain⟨rfl,rfl⟩:=hl;have z:((0:Nat):Int)*KK+((1:Nat):Int)=1:=by simp
  replace hK:=J.setSt hCW hK hw (((0:Nat):Int)*KK+((1:Nat):Int));refine⟨200,Sil.of (w:=w₁.setCell (stA Φ.Wg) (.int .u64 (((0:Nat):Int)*KK+((1:Nat):Int)))) ?_⟩;generalize w₁.setCell (stA Φ.Wg) (.int .u64 (((0:Nat):Int)*KK+((1:Nat):Int)))=w₂ at hK;clear hw e0;rw[z];walk_nrm;u_op jl hK;u_c stepG_region_end jl hK;u_c stepG_ret' jl hK;u_leave1 H.f_uAdd jl hK;u_op jl hK;u_c stepG_region_end jl hK;iterate 2 u_c stepG_seq jl hK
  u_reg jl hK;iterate 4 u_op jl hK
  iterate 2 u_skip jl hK
  u_op jl hK;u_c stepG_region_end jl hK;u_cond false jl hK;u_c stepG_skip jl hK;u_c stepG_seq jl hK;u_reg jl hK;iterate 4 u_op jl hK
  u_c stepG_region_end jl hK;u_c stepG_seq jl hK;u_reg jl hK;iterate 4 u_op jl hK
  u_c stepG_region_end jl hK;iterate 2 u_c stepG_seq jl hK
  u_reg jl hK;iterate 5 u_op jl hK
  iterate 4 u_skip jl hK
  u_op jl hK;u_c stepG_region_end jl hK;u_cond false jl hK;u_c stepG_skip jl hK;iterate 2 u_c stepG_seq jl hK
  u_reg jl hK;iterate 2 u_op jl hK
  u_c stepG_region_end jl hK;u_cond false jl hK;u_c stepG_skip jl hK;iterate 2 u_c stepG_seq jl hK
  u_reg jl hK;iterate 7 u_op jl hK
  iterate 4 u_skip jl hK
  u_op jl hK;u_c stepG_region_end jl hK;u_cond false jl hK;u_c stepG_skip jl hK;iterate 2 u_c stepG_seq jl hK
  u_reg jl hK;iterate 6 u_op jl hK
  u_c stepG_region_end jl hK;u_cond false jl hK;u_c stepG_skip jl hK;iterate 2 u_c stepG_seq jl hK
  u_reg jl hK;iterate 3 u_op jl hK
  u_call H.f_uLoad (nm_uLoad L) uLoadFn jl hK;u_c stepG_seq jl hK;u_reg jl hK;u_op jl hK;u_c stepG_region_end jl hK;u_c stepG_seq jl hK;u_reg jl hK;iterate 3 u_op jl hK
  refine Goes.stop (fun w₁ h₁=>?_);replace hK:=jl hK h₁;clear h₁;refine⟨rfl,fun hw=>⟨_,stepG_load_atomic rfl rfl (by k_ne) rfl H.f_loadU64 (x_loadU64_n L) (x_loadU64_b L) (x_loadU64_x L) .u64 (x_loadU64_f L) rfl hw.cellSt,200,Sil.of (w:=w₁) ?_⟩⟩;clear hw;walk_nrm;u_op jl hK;u_c stepG_region_end jl hK;u_c stepG_ret' jl hK;u_leave1 H.f_uLoad jl hK;iterate 2 u_op jl hK
  u_c stepG_region_end jl hK;u_cond false jl hK;u_c stepG_skip jl hK;u_c stepG_seq jl hK;u_reg jl hK;iterate 3 u_op jl hK
  u_call H.f_uStore (nm_uStore L) uStoreFn jl hK;u_reg jl hK;iterate 4 u_op jl hK
  refine Goes.stop (fun w₁ h₁=>?_);replace hK:=jl hK h₁;clear h₁;refine⟨rfl,fun hw=>⟨_,stepG_store_atomic rfl rfl (by k_ne) rfl H.f_storeU64 (x_storeU64_n L) (x_storeU64_b L) (x_storeU64_x L) (x_storeU64_f L) rfl rfl hw.cellSt (hw.thaw 0),200,Sil.of (w:=w₁.setCell (stA Φ.Wg) (.int .u64 0)) ?_⟩⟩;replace hK:=J.setSt hCW hK hw 0;generalize w₁.setCell (stA Φ.Wg) (.int .u64 0)=w₂ at hK;clear hw;walk_nrm;u_c stepG_region_end jl hK;u_c stepG_end jl hK;u_leave0 H.f_uStore jl hK;u_c stepG_region_end jl hK;iterate 2 u_c stepG_seq jl hK
  u_reg jl hK;u_op jl hK;u_c stepG_region_end jl hK;u_cond false jl hK;u_c stepG_skip jl hK;u_c stepG_block jl hK;u_c stepG_loop jl hK;iterate 2 u_c stepG_seq jl hK
  u_reg jl hK;iterate 2 u_op jl hK
  u_c stepG_region_end jl hK;u_cond true jl hK;u_c stepG_skip jl hK;u_c stepG_seq jl hK;u_c stepG_block jl hK;u_reg jl hK;iterate 3 u_op jl hK
  refine Goes.stop (fun w₁ h₁=>?_);replace hK:=jl hK h₁;clear h₁;refine⟨rfl,mayWake_entry rfl rfl H.f_semrelease (x_semrelease_b L),fun hw=>⟨_,(stepG_semrelease rfl rfl (by k_ne) rfl H.f_semrelease (x_semrelease_n L) (x_semrelease_b L) (x_semrelease_x L) (x_semrelease_f L) (by simp[Act.eval,smA]) hw.cellSm (hw.thaw 1)).trans (by rfl),qt+19,?_⟩⟩;clear hw;have q3:True:=trivial;have q4:True:=trivial;have q5:True:=trivial;have c1:True:=trivial;have c3:IntKind.u32.wrap 0=0:=by decide
  have c4:IntKind.u32.wrap 1=1:=by decide
  walk_nrm
  q_c stepG_region_end
  q_c stepG_inBlock
  q_reg
  iterate 3 (apply QuitsD.value;(case ho=>rfl);(case hw=>rfl);(case hk=>k_ne);(case hr=>intro w;go_simp;(try simp only[q3,q4,q5,c1,c3,c4]);first | rfl | (w_num;rfl));(case he=>intro w;simp[go_sem, *]);walk_nrm)
  q_c stepG_region_end
  q_c stepG_inLoop
  iterate 2 q_c stepG_seq
  q_reg
  iterate 2 (apply QuitsD.value;(case ho=>rfl);(case hw=>rfl);(case hk=>k_ne);(case hr=>intro w;go_simp;(try simp only[q3,q4,q5,c1,c3,c4]);first | rfl | (w_num;rfl));(case he=>intro w;simp[go_sem, *]);walk_nrm)
  q_c stepG_region_end
  q_cond false
  q_exit
  q_c stepG_end
  q_enable
  q_leave0 H.f_add
  exact hT
 ·refine⟨qt+89,?_⟩;clear e0 hw hK;obtain⟨S,hS⟩:∃S:Int,(v:Int)*KK+wt=S:=⟨_,rfl⟩;have a1:S/4294967296=(v:Int):=by rw[<-hS];simp only[KK];omega
  have b1:bits .and .u64 S 2147483648=0:=by rw[<-hS];have:=st_flag v wt (by omega) (by omega);simpa[KK]using this
  have b2:bits .and .u64 S 2147483647=(wt:Int):=by rw[<-hS];have:=st_waiters v wt (by omega) (by omega);simpa[KK]using this
  have c1:IntKind.i32.wrap (v:Int)=(v:Int):=by rw[IntKind.wrap_i32];omega
  have c2:IntKind.u32.wrap (wt:Int)=(wt:Int):=by rw[IntKind.wrap_u32];omega
  have q3:decide ((v:Int)<0)=false:=decide_eq_false (by omega);rw[hS];have c3:IntKind.u32.wrap 0=0:=by decide
  have c4:IntKind.u32.wrap 1=1:=by decide
  have hcase:wt=0\/wt=1:=by omega
  rcases hcase with rfl | rfl
  ·replace b2:bits .and .u64 S 2147483647=0:=b2;clear c2;rcases Nat.eq_zero_or_pos v with rfl | hvp
   ·have z:S=0:=by rw[<-hS];simp
    subst z;have q4:True:=trivial;have q5:True:=trivial;simp only[Int.natCast_zero]at c1 q3 a1 b1 b2;walk_nrm
    (apply QuitsD.value;(case ho=>rfl);(case hw=>rfl);(case hk=>k_ne);(case hr=>intro w;go_simp;(try simp only[q3,q4,q5,c1,c3,c4]);first | rfl | (w_num;rfl));(case he=>intro w;simp[go_sem, *]);walk_nrm)
    q_c stepG_region_end
    q_c stepG_ret'
    q_leave1 H.f_uAdd
    (apply QuitsD.value;(case ho=>rfl);(case hw=>rfl);(case hk=>k_ne);(case hr=>intro w;go_simp;(try simp only[q3,q4,q5,c1,c3,c4]);first | rfl | (w_num;rfl));(case he=>intro w;simp[go_sem, *]);walk_nrm)
    q_c stepG_region_end
    iterate 2 q_c stepG_seq
    q_reg
    iterate 4 (apply QuitsD.value;(case ho=>rfl);(case hw=>rfl);(case hk=>k_ne);(case hr=>intro w;go_simp;(try simp only[q3,q4,q5,c1,c3,c4]);first | rfl | (w_num;rfl));(case he=>intro w;simp[go_sem, *]);walk_nrm)
    iterate 2 q_skip
    (apply QuitsD.value;(case ho=>rfl);(case hw=>rfl);(case hk=>k_ne);(case hr=>intro w;go_simp;(try simp only[q3,q4,q5,c1,c3,c4]);first | rfl | (w_num;rfl));(case he=>intro w;simp[go_sem, *]);walk_nrm)
    q_c stepG_region_end
    q_cond false
    q_c stepG_skip
    q_c stepG_seq
    q_reg
    iterate 4 (apply QuitsD.value;(case ho=>rfl);(case hw=>rfl);(case hk=>k_ne);(case hr=>intro w;go_simp;(try simp only[q3,q4,q5,c1,c3,c4]);first | rfl | (w_num;rfl));(case he=>intro w;simp[go_sem, *]);walk_nrm)
    q_c stepG_region_end
    q_c stepG_seq
    q_reg
    iterate 4 (apply QuitsD.value;(case ho=>rfl);(case hw=>rfl);(case hk=>k_ne);(case hr=>intro w;go_simp;(try simp only[q3,q4,q5,c1,c3,c4]);first | rfl | (w_num;rfl));(case he=>intro w;simp[go_sem, *]);walk_nrm)
    q_c stepG_region_end
    iterate 2 q_c stepG_seq
    q_reg
    iterate 5 (apply QuitsD.value;(case ho=>rfl);(case hw=>rfl);(case hk=>k_ne);(case hr=>intro w;go_simp;(try simp only[q3,q4,q5,c1,c3,c4]);first | rfl | (w_num;rfl));(case he=>intro w;simp[go_sem, *]);walk_nrm)
    iterate 4 q_skip
    (apply QuitsD.value;(case ho=>rfl);(case hw=>rfl);(case hk=>k_ne);(case hr=>intro w;go_simp;(try simp only[q3,q4,q5,c1,c3,c4]);first | rfl | (w_num;rfl));(case he=>intro w;simp[go_sem, *]);walk_nrm)
    q_c stepG_region_end
    q_cond false
    q_c stepG_skip
    iterate 2 q_c stepG_seq
    q_reg
    iterate 2 (apply QuitsD.value;(case ho=>rfl);(case hw=>rfl);(case hk=>k_ne);(case hr=>intro w;go_simp;(try simp only[q3,q4,q5,c1,c3,c4]);first | rfl | (w_num;rfl));(case he=>intro w;simp[go_sem, *]);walk_nrm)
    q_c stepG_region_end
    q_cond false
    q_c stepG_skip
    iterate 2 q_c stepG_seq
    q_reg
    iterate 3 (apply QuitsD.value;(case ho=>rfl);(case hw=>rfl);(case hk=>k_ne);(case hr=>intro w;go_simp;(try simp only[q3,q4,q5,c1,c3,c4]);first | rfl | (w_num;rfl));(case he=>intro w;simp[go_sem, *]);walk_nrm)
    iterate 2 q_skip
    iterate 2 (apply QuitsD.value;(case ho=>rfl);(case hw=>rfl);(case hk=>k_ne);(case hr=>intro w;go_simp;(try simp only[q3,q4,q5,c1,c3,c4]);first | rfl | (w_num;rfl));(case he=>intro w;simp[go_sem, *]);walk_nrm)
    iterate 4 q_skip
    (apply QuitsD.value;(case ho=>rfl);(case hw=>rfl);(case hk=>k_ne);(case hr=>intro w;go_simp;(try simp only[q3,q4,q5,c1,c3,c4]);first | rfl | (w_num;rfl));(case he=>intro w;simp[go_sem, *]);walk_nrm)
    q_c stepG_region_end
    q_cond false
    q_c stepG_skip
    iterate 2 q_c stepG_seq
    q_reg
    iterate 6 (apply QuitsD.value;(case ho=>rfl);(case hw=>rfl);(case hk=>k_ne);(case hr=>intro w;go_simp;(try simp only[q3,q4,q5,c1,c3,c4]);first | rfl | (w_num;rfl));(case he=>intro w;simp[go_sem, *]);walk_nrm)
    q_c stepG_region_end
    q_cond true
    q_c stepG_ret'
    q_enable
    q_leave0 H.f_add
    exact hT
   ·have q4:decide (0<(v:Int))=true:=decide_eq_true (by omega);have q5:((v:Int)==0)=false:=by simp;omega
    walk_nrm
    (apply QuitsD.value;(case ho=>rfl);(case hw=>rfl);(case hk=>k_ne);(case hr=>intro w;go_simp;(try simp only[q3,q4,q5,c1,c3,c4]);first | rfl | (w_num;rfl));(case he=>intro w;simp[go_sem, *]);walk_nrm)
    q_c stepG_region_end
    q_c stepG_ret'
    q_leave1 H.f_uAdd
    (apply QuitsD.value;(case ho=>rfl);(case hw=>rfl);(case hk=>k_ne);(case hr=>intro w;go_simp;(try simp only[q3,q4,q5,c1,c3,c4]);first | rfl | (w_num;rfl));(case he=>intro w;simp[go_sem, *]);walk_nrm)
    q_c stepG_region_end
    iterate 2 q_c stepG_seq
    q_reg
    iterate 4 (apply QuitsD.value;(case ho=>rfl);(case hw=>rfl);(case hk=>k_ne);(case hr=>intro w;go_simp;(try simp only[q3,q4,q5,c1,c3,c4]);first | rfl | (w_num;rfl));(case he=>intro w;simp[go_sem, *]);walk_nrm)
    iterate 2 q_skip
    (apply QuitsD.value;(case ho=>rfl);(case hw=>rfl);(case hk=>k_ne);(case hr=>intro w;go_simp;(try simp only[q3,q4,q5,c1,c3,c4]);first | rfl | (w_num;rfl));(case he=>intro w;simp[go_sem, *]);walk_nrm)
    q_c stepG_region_end
    q_cond false
    q_c stepG_skip
    q_c stepG_seq
    q_reg
    iterate 4 (apply QuitsD.value;(case ho=>rfl);(case hw=>rfl);(case hk=>k_ne);(case hr=>intro w;go_simp;(try simp only[q3,q4,q5,c1,c3,c4]);first | rfl | (w_num;rfl));(case he=>intro w;simp[go_sem, *]);walk_nrm)
    q_c stepG_region_end
    q_c stepG_seq
    q_reg
    iterate 4 (apply QuitsD.value;(case ho=>rfl);(case hw=>rfl);(case hk=>k_ne);(case hr=>intro w;go_simp;(try simp only[q3,q4,q5,c1,c3,c4]);first | rfl | (w_num;rfl));(case he=>intro w;simp[go_sem, *]);walk_nrm)
    q_c stepG_region_end
    iterate 2 q_c stepG_seq
    q_reg
    iterate 5 (apply QuitsD.value;(case ho=>rfl);(case hw=>rfl);(case hk=>k_ne);(case hr=>intro w;go_simp;(try simp only[q3,q4,q5,c1,c3,c4]);first | rfl | (w_num;rfl));(case he=>intro w;simp[go_sem, *]);walk_nrm)
    iterate 4 q_skip
    (apply QuitsD.value;(case ho=>rfl);(case hw=>rfl);(case hk=>k_ne);(case hr=>intro w;go_simp;(try simp only[q3,q4,q5,c1,c3,c4]);first | rfl | (w_num;rfl));(case he=>intro w;simp[go_sem, *]);walk_nrm)
    q_c stepG_region_end
    q_cond false
    q_c stepG_skip
    iterate 2 q_c stepG_seq
    q_reg
    iterate 2 (apply QuitsD.value;(case ho=>rfl);(case hw=>rfl);(case hk=>k_ne);(case hr=>intro w;go_simp;(try simp only[q3,q4,q5,c1,c3,c4]);first | rfl | (w_num;rfl));(case he=>intro w;simp[go_sem, *]);walk_nrm)
    q_c stepG_region_end
    q_cond false
    q_c stepG_skip
    iterate 2 q_c stepG_seq
    q_reg
    iterate 3 (apply QuitsD.value;(case ho=>rfl);(case hw=>rfl);(case hk=>k_ne);(case hr=>intro w;go_simp;(try simp only[q3,q4,q5,c1,c3,c4]);first | rfl | (w_num;rfl));(case he=>intro w;simp[go_sem, *]);walk_nrm)
    iterate 2 q_skip
    iterate 2 (apply QuitsD.value;(case ho=>rfl);(case hw=>rfl);(case hk=>k_ne);(case hr=>intro w;go_simp;(try simp only[q3,q4,q5,c1,c3,c4]);first | rfl | (w_num;rfl));(case he=>intro w;simp[go_sem, *]);walk_nrm)
    iterate 4 q_skip
    (apply QuitsD.value;(case ho=>rfl);(case hw=>rfl);(case hk=>k_ne);(case hr=>intro w;go_simp;(try simp only[q3,q4,q5,c1,c3,c4]);first | rfl | (w_num;rfl));(case he=>intro w;simp[go_sem, *]);walk_nrm)
    q_c stepG_region_end
    q_cond false
    q_c stepG_skip
    iterate 2 q_c stepG_seq
    q_reg
    iterate 3 (apply QuitsD.value;(case ho=>rfl);(case hw=>rfl);(case hk=>k_ne);(case hr=>intro w;go_simp;(try simp only[q3,q4,q5,c1,c3,c4]);first | rfl | (w_num;rfl));(case he=>intro w;simp[go_sem, *]);walk_nrm)
    iterate 2 q_skip
    (apply QuitsD.value;(case ho=>rfl);(case hw=>rfl);(case hk=>k_ne);(case hr=>intro w;go_simp;(try simp only[q3,q4,q5,c1,c3,c4]);first | rfl | (w_num;rfl));(case he=>intro w;simp[go_sem, *]);walk_nrm)
    q_c stepG_region_end
    q_cond true
    q_c stepG_ret'
    q_enable
    q_leave0 H.f_add
    exact hT
  ·replace b2:bits .and .u64 S 2147483647=1:=b2;clear c2;have hvp:0<v:=by omega
   have q4:decide (0<(v:Int))=true:=decide_eq_true (by omega);have q5:((v:Int)==0)=false:=by simp;omega
   walk_nrm
   (apply QuitsD.value;(case ho=>rfl);(case hw=>rfl);(case hk=>k_ne);(case hr=>intro w;go_simp;(try simp only[q3,q4,q5,c1,c3,c4]);first | rfl | (w_num;rfl));(case he=>intro w;simp[go_sem, *]);walk_nrm)
   q_c stepG_region_end
   q_c stepG_ret'
   q_leave1 H.f_uAdd
   (apply QuitsD.value;(case ho=>rfl);(case hw=>rfl);(case hk=>k_ne);(case hr=>intro w;go_simp;(try simp only[q3,q4,q5,c1,c3,c4]);first | rfl | (w_num;rfl));(case he=>intro w;simp[go_sem, *]);walk_nrm)
   q_c stepG_region_end
   iterate 2 q_c stepG_seq
   q_reg
   iterate 4 (apply QuitsD.value;(case ho=>rfl);(case hw=>rfl);(case hk=>k_ne);(case hr=>intro w;go_simp;(try simp only[q3,q4,q5,c1,c3,c4]);first | rfl | (w_num;rfl));(case he=>intro w;simp[go_sem, *]);walk_nrm)
   q_skip
   q_skip
   (apply QuitsD.value;(case ho=>rfl);(case hw=>rfl);(case hk=>k_ne);(case hr=>intro w;go_simp;(try simp only[q3,q4,q5,c1,c3,c4]);first | rfl | (w_num;rfl));(case he=>intro w;simp[go_sem, *]);walk_nrm)
   q_c stepG_region_end
   q_cond false
   q_c stepG_skip
   q_c stepG_seq
   q_reg
   iterate 4 (apply QuitsD.value;(case ho=>rfl);(case hw=>rfl);(case hk=>k_ne);(case hr=>intro w;go_simp;(try simp only[q3,q4,q5,c1,c3,c4]);first | rfl | (w_num;rfl));(case he=>intro w;simp[go_sem, *]);walk_nrm)
   q_c stepG_region_end
   q_c stepG_seq
   q_reg
   iterate 4 (apply QuitsD.value;(case ho=>rfl);(case hw=>rfl);(case hk=>k_ne);(case hr=>intro w;go_simp;(try simp only[q3,q4,q5,c1,c3,c4]);first | rfl | (w_num;rfl));(case he=>intro w;simp[go_sem, *]);walk_nrm)
   q_c stepG_region_end
   iterate 2 q_c stepG_seq
   q_reg
   iterate 5 (apply QuitsD.value;(case ho=>rfl);(case hw=>rfl);(case hk=>k_ne);(case hr=>intro w;go_simp;(try simp only[q3,q4,q5,c1,c3,c4]);first | rfl | (w_num;rfl));(case he=>intro w;simp[go_sem, *]);walk_nrm)
   iterate 4 q_skip
   (apply QuitsD.value;(case ho=>rfl);(case hw=>rfl);(case hk=>k_ne);(case hr=>intro w;go_simp;(try simp only[q3,q4,q5,c1,c3,c4]);first | rfl | (w_num;rfl));(case he=>intro w;simp[go_sem, *]);walk_nrm)
   q_c stepG_region_end
   q_cond false
   q_c stepG_skip
   iterate 2 q_c stepG_seq
   q_reg
   iterate 2 (apply QuitsD.value;(case ho=>rfl);(case hw=>rfl);(case hk=>k_ne);(case hr=>intro w;go_simp;(try simp only[q3,q4,q5,c1,c3,c4]);first | rfl | (w_num;rfl));(case he=>intro w;simp[go_sem, *]);walk_nrm)
   q_c stepG_region_end
   q_cond false
   q_c stepG_skip
   iterate 2 q_c stepG_seq
   q_reg
   iterate 7 (apply QuitsD.value;(case ho=>rfl);(case hw=>rfl);(case hk=>k_ne);(case hr=>intro w;go_simp;(try simp only[q3,q4,q5,c1,c3,c4]);first | rfl | (w_num;rfl));(case he=>intro w;simp[go_sem, *]);walk_nrm)
   iterate 4 q_skip
   (apply QuitsD.value;(case ho=>rfl);(case hw=>rfl);(case hk=>k_ne);(case hr=>intro w;go_simp;(try simp only[q3,q4,q5,c1,c3,c4]);first | rfl | (w_num;rfl));(case he=>intro w;simp[go_sem, *]);walk_nrm)
   q_c stepG_region_end
   q_cond false
   q_c stepG_skip
   iterate 2 q_c stepG_seq
   q_reg
   iterate 3 (apply QuitsD.value;(case ho=>rfl);(case hw=>rfl);(case hk=>k_ne);(case hr=>intro w;go_simp;(try simp only[q3,q4,q5,c1,c3,c4]);first | rfl | (w_num;rfl));(case he=>intro w;simp[go_sem, *]);walk_nrm)
   q_skip
   q_skip
   (apply QuitsD.value;(case ho=>rfl);(case hw=>rfl);(case hk=>k_ne);(case hr=>intro w;go_simp;(try simp only[q3,q4,q5,c1,c3,c4]);first | rfl | (w_num;rfl));(case he=>intro w;simp[go_sem, *]);walk_nrm)
   q_c stepG_region_end
   q_cond true
   q_c stepG_ret'
   q_enable
   q_leave0 H.f_add
   exact hT
end
end Go.Eng
namespace Go.Eng
open Go Go.Conc Go.RowKit Go.Conc.Lib Go.ConcR.Gen Go.ConcN.Gen
open Go.ConcN hiding upd upd_same upd_ne AtD4 AtD3 AtD2 AtD1 AtK1 AtR0 AtAcq AtKe AtW4 AtW3 AtW2 AtW1 AtKd WSit AtA1
open Go.ConcR (KK wgBlock WgAt stA smA rd wr DC0 Payload)
variable {ops:Array Oper}{i:Nat}{o:Oper}
section
variable [Payload]{P:Program}{L:WgLink}{Φ:Ph}{cs:List Frame}{qt:Nat}
theorem Z1(fr:Frame)(cs:List Frame):gor fr cs=G fr cs:=rfl
theorem Ws(H:WgLib P L)(hCW:Φ.C≠Φ.Wg){c:Frame}(hcm:c.mode=.returning)(hT:QuitsD P qt 0 (G c cs))(w:World)(hK:Φ.J w) :
  Goes P false (fun _ w₁=>Φ.J w₁) DC0 (AtR0 P Φ) 103 (G ((baseD L.done).at ⟨#[.pointer (some ⟨Φ.Wg,0,none⟩),undef,undef,undef],[]⟩ [.code (body_done L)]) (c::cs)) w:=by
 lib_facts
 have hA:=@Yt _ P L Φ;simp only[body_done,body_add,doneFn,addFn,Option.getD_some]at hA ⊢;u_reg jl hK;u_op jl hK;u_in jl hK;refine goes_call rfl rfl (by k_ne) rfl H.f_add (nm_add L) rfl ⟨by u_nil,?_⟩
 walk_nrmf addFn
 refine hA (qt:=qt+3) H hCW ?_ _ hK
 q_c stepG_region_end
 q_c stepG_end
 exact QuitsD.leaveD rfl rfl H.f_done rfl hcm hT
variable {b₀:Frame}{a₀:Act}{ops₀:Array Oper}{i₀:Nat}{rest₀:List Nat}{k₀:List Item}
def PH(P:Program)(fr₁:Frame)(cs₁:List Frame)(fr:Frame)(cs:List Frame):Prop:=
 ∀(S:Shared) (Post:Frame->List Frame->Heap->Prop) (h:Heap),Safe P S Post fr₁ cs₁ h->Safe P S Post fr cs h
section
variable {S:Shared}{Post:Frame -> List Frame -> Heap -> Prop}{h:Heap}{b:Frame}{a:Act}{k:List Item}
theorem FQ{rest:List Nat}(v:Value)(ho:ops[i]? = some o)(hw:Region.wanted o (yielded ops a.tmps)=true)(hk:b.kind ≠ .early)
  (hr:∀w,(execOp a.eval o).run P w=.ok (.value v) w)(he:∀w,(execOp a.eval o).events P w #[]=#[])
  (K:Safe P S Post (b.at (a.put o.dst v) (.inRegion ops rest::k)) cs h):Safe P S Post (b.at a (.inRegion ops (i::rest)::k)) cs h:=
 .ym (fun w m=>by show stepG P m (G _ _) w=_;rw[stepG_value ho hw hk (hr w)];unfold listed;rw[he w,seen_none];rfl) K
theorem QB{rest:List Nat}(ho:ops[i]? = some o)(hw:Region.wanted o (yielded ops a.tmps)=false)
  (K:Safe P S Post (b.at (a.put o.dst undef) (.inRegion ops rest::k)) cs h):Safe P S Post (b.at a (.inRegion ops (i::rest)::k)) cs h:=
 .ym (fun _ _=>stepG_unwanted ho hw) K
theorem Nn{fn:Func}{b₀:Frame}{a₀:Act}{rest:List Nat}{todo:List Item}(hn:b.kind=.normal)(hd:a.defers=[])(hf:P.funcs[b.fn]? = some fn)(hr:fn.results=#[])
  (K:Safe P S Post (b₀.at (a₀.put ((ops[i]?).bind (·.dst)) (.tuple #[])) (.inRegion ops rest::k)) cs h):Safe P S Post { b.at a todo with mode:=.returning } (b₀.at a₀ (.inRegion ops (i::rest)::k)::cs) h:=
 .ym (fun w m=>by show stepG P m (G _ _) w=_;rw[stepG_leave hn hd hf (results_none hr _ P w) (events_results_none hr _ _),Frame.finish_at];rfl) K
end
def S4(L:WgLink)(Wg:Nat)(c:Frame)(cs:List Frame)(g:Goroutine):Prop:=
 ∃T:Array Value,g=G ((base L.wait).at ⟨T,[]⟩ [.code (L7 L),.inLoop (L7 L),.inBlock 0]) (c::cs)/\T.size=84/\T[0]? = some (.pointer (some ⟨Wg,0,none⟩))
theorem UG(H:WgLib P L)(hCW:Φ.C≠Φ.Wg)(g:Goroutine)(h:S4 L Φ.Wg (b₀.at a₀ (.inRegion ops₀ (i₀::rest₀)::k₀)) cs g)(w:World)(hK:Φ.J w) :
  Goes P true (fun _ w₁=>Φ.J w₁) DC0 (AtW1 P Φ (PH P (b₀.at (a₀.put ((ops₀[i₀]?).bind (·.dst)) (.tuple #[])) (.inRegion ops₀ rest₀::k₀)) cs) (S4 L Φ.Wg (b₀.at a₀ (.inRegion ops₀ (i₀::rest₀)::k₀)) cs)) 100 g w:=by
 lib_facts
 obtain⟨T,rfl,hT84,t0⟩:=h;obtain⟨v0,v1,v2,v3,v4,v5,v6,v7,v8,v9,v10,v11,v12,v13,v14,v15,v16,v17,v18,v19,v20,v21,v22,v23,v24,v25,v26,v27,v28,v29,v30,v31,v32,v33,v34,v35,v36,v37,v38,v39,v40,v41,v42,v43,v44,v45,v46,v47,v48,v49,v50,v51,v52,v53,v54,v55,v56,v57,v58,v59,v60,v61,v62,v63,v64,v65,v66,v67,v68,v69,v70,v71,v72,v73,v74,v75,v76,v77,v78,v79,v80,v81,v82,v83,rfl⟩:=array84 T hT84;simp only[List.getElem?_toArray,vC,Option.some.injEq]at t0;subst t0;simp only[L7,body_wait,waitFn,Option.getD_some];u_c stepG_block jl hK;u_c stepG_seq jl hK;u_reg jl hK;iterate 3 u_op jl hK
 u_call H.f_uLoad (nm_uLoad L) uLoadFn jl hK;u_c stepG_seq jl hK;u_reg jl hK;u_op jl hK;u_c stepG_region_end jl hK;u_c stepG_seq jl hK;u_reg jl hK;iterate 3 u_op jl hK
 refine Goes.stop (fun w₁ h₁=>?_);replace hK:=jl hK h₁;clear h₁;refine⟨rfl,fun v hv hw=>?_⟩;rcases Nat.eq_zero_or_pos v with rfl | hvp
 ·replace hw:WgAt Φ.ty Φ.Wg w₁ 0 0:=by simpa using hw
  refine⟨_,stepG_load_atomic (v:=0) rfl rfl (by k_ne) rfl H.f_loadU64 (x_loadU64_n L) (x_loadU64_b L) (x_loadU64_x L) .u64 (x_loadU64_f L) rfl hw.cellSt,fun _=>⟨100,Sil.of (w:=w₁) ?_⟩,fun h=>absurd rfl h⟩;clear hw;walk_nrm;u_op jl hK;u_c stepG_region_end jl hK;u_c stepG_ret' jl hK;u_leave1 H.f_uLoad jl hK;u_op jl hK;u_c stepG_region_end jl hK;u_c stepG_seq jl hK;u_reg jl hK;iterate 4 u_op jl hK
  u_c stepG_region_end jl hK;u_c stepG_seq jl hK;u_reg jl hK;iterate 4 u_op jl hK
  u_c stepG_region_end jl hK;iterate 2 u_c stepG_seq jl hK
  u_reg jl hK;iterate 2 u_op jl hK
  u_c stepG_region_end jl hK;u_cond true jl hK;u_c stepG_seq jl hK;u_cond true jl hK;u_c stepG_seq jl hK;u_reg jl hK;refine Goes.stop (fun w₁ h₁=>?_);replace hK:=jl hK h₁;clear h₁;refine⟨rfl,_,stepG_mark0 .enable (by simp) rfl rfl (by k_ne) rfl H.f_enable (x_enable_n L) (x_enable_b L) (x_enable_x L) (x_enable_f L),100,Sil.of (w:=w₁) ?_⟩;walk_nrm;u_c stepG_region_end jl hK;u_reg jl hK;u_op jl hK;u_conv H.underlying_tWgP H.room_tWg (J.cell0 hK).choose_spec jl hK;refine Goes.stop (fun w₁ h₁=>?_);replace hK:=jl hK h₁;clear h₁;refine⟨rfl,_,_,stepG_markAt .acquire (by simp) rfl rfl (by k_ne) rfl H.f_acquire (x_acquire_n L) (x_acquire_b L) (x_acquire_x L) (x_acquire_f L) (by simp[Act.eval,stA]),fun S Post hh K=>?_⟩;clear hK;walk_nrm;refine Safe.ym (fun _ _=>stepG_region_end) ?_;refine Safe.ym (fun _ _=>stepG_seq) ?_;refine Safe.ym (fun _ _=>stepG_seq) ?_
  (refine Safe.ym (fun _ _=>stepG_region) ?_;simp only[List.size_toArray,List.length_cons,List.length_nil,Nat.reduceAdd,Nat.zero_add,List.range,List.range.loop])
  iterate 8 (apply FQ;(case ho=>rfl);(case hw=>rfl);(case hk=>k_ne);(case hr=>intro w;go_simp;(try simp only[q3,q4,q5,q6,a1,b1,b2,c1,c3,c4]);first | rfl | (w_num;rfl));(case he=>intro w;simp[go_sem, *]);walk_nrm)
  iterate 2 (refine QB rfl rfl ?_;walk_nrm)
  (apply FQ;(case ho=>rfl);(case hw=>rfl);(case hk=>k_ne);(case hr=>intro w;go_simp;(try simp only[q3,q4,q5,q6,a1,b1,b2,c1,c3,c4]);first | rfl | (w_num;rfl));(case he=>intro w;simp[go_sem, *]);walk_nrm)
  refine Safe.ym (fun _ _=>stepG_region_end) ?_
  (refine Safe.ym (fun _ _=>stepG_cond (t:=false) rfl) ?_;simp only[vK,↓reduceIte])
  refine Safe.ym (fun _ _=>stepG_skip) ?_;refine Safe.ym (fun _ _=>stepG_ret') ?_;refine Nn rfl rfl H.f_wait rfl ?_;exact K
 ·obtain⟨S,hS⟩:∃S:Int,(v:Int)*KK=S:=⟨_,rfl⟩;have a1:S/4294967296=(v:Int):=by rw[<-hS];simp only[KK];omega
  have b1:bits .and .u64 S 2147483648=0:=by rw[<-hS];have:=st_flag v 0 (by omega) (by omega);simpa[KK]using this
  have b2:bits .and .u64 S 2147483647=0:=by rw[<-hS];have:=st_waiters v 0 (by omega) (by omega);simpa[KK]using this
  have c1:IntKind.i32.wrap (v:Int)=(v:Int):=by rw[IntKind.wrap_i32];omega
  have w1:IntKind.u64.wrap (S+1)=S+1:=by rw[IntKind.wrap_u64,<-hS];simp only[KK];omega
  have q3:decide ((v:Int)<0)=false:=decide_eq_false (by omega);have q4:decide (0<(v:Int))=true:=decide_eq_true (by omega);have q5:((v:Int)==0)=false:=by simp;omega
  have q6:decide ((v:Int)=0)=false:=decide_eq_false (by omega);rw[hS]at hw;refine⟨_,stepG_load_atomic (v:=S) rfl rfl (by k_ne) rfl H.f_loadU64 (x_loadU64_n L) (x_loadU64_b L) (x_loadU64_x L) .u64 (x_loadU64_f L) rfl hw.cellSt,fun h0=>absurd h0 (by omega),fun _=>⟨200,Sil.of (w:=w₁) ?_⟩⟩;clear hw;walk_nrm;u_op jl hK;u_c stepG_region_end jl hK;u_c stepG_ret' jl hK;u_leave1 H.f_uLoad jl hK;u_op jl hK;u_c stepG_region_end jl hK;u_c stepG_seq jl hK;u_reg jl hK;iterate 4 u_op jl hK
  u_c stepG_region_end jl hK;u_c stepG_seq jl hK;u_reg jl hK;iterate 4 u_op jl hK
  u_c stepG_region_end jl hK;iterate 2 u_c stepG_seq jl hK
  u_reg jl hK;iterate 2 u_op jl hK
  u_c stepG_region_end jl hK;u_cnd false jl hK;u_c stepG_skip jl hK;u_c stepG_seq jl hK;u_reg jl hK;iterate 6 u_op jl hK
  u_call H.f_uCas (nm_uCas L) uCasFn jl hK;u_c stepG_seq jl hK;u_reg jl hK;u_op jl hK;u_c stepG_region_end jl hK;u_c stepG_seq jl hK;u_reg jl hK;iterate 5 u_op jl hK
  refine Goes.stop (fun w₁ h₁=>?_);replace hK:=jl hK h₁;clear h₁;refine⟨rfl,fun v' hv' hw=>⟨fun e=>?_,fun e=>?_⟩⟩
  ·subst e;rw[hS]at hw ⊢;refine⟨_,(stepG_cas_hit (v:=S) (n:=S+1) rfl rfl (by k_ne) rfl H.f_casU64 (x_casU64_n L) (x_casU64_b L) (x_casU64_x L) .u64 (x_casU64_f L) rfl rfl rfl hw.cellSt (hw.thaw 0)).trans (by rfl),200,Sil.of (w:=w₁.setCell (stA Φ.Wg) (.int .u64 (S+1))) ?_⟩;replace hK:=J.setSt hCW hK hw (S+1);generalize w₁.setCell (stA Φ.Wg) (.int .u64 (S+1))=w₂ at hK;clear hw;walk_nrm;u_op jl hK;u_c stepG_region_end jl hK;u_c stepG_ret' jl hK;u_leave1 H.f_uCas jl hK;u_c stepG_region_end jl hK;u_cond true jl hK;iterate 2 u_c stepG_seq jl hK
   u_reg jl hK;iterate 4 u_op jl hK
   u_c stepG_region_end jl hK;u_cond true jl hK;u_reg jl hK;iterate 3 u_op jl hK
   u_conv H.underlying_tPU32 H.room_tU32 (J.cell1 hK).choose_spec jl hK;refine Goes.stop (fun w₁ h₁=>?_);replace hK:=jl hK h₁;clear h₁;refine⟨rfl,_,stepG_markAt .write (by simp) rfl rfl (by k_ne) rfl H.f_raceWrite (x_raceWrite_n L) (x_raceWrite_b L) (x_raceWrite_x L) (x_raceWrite_f L) (ad:=⟨Φ.Wg,1,none⟩) (by simp[Act.eval]),200,Sil.of (w:=w₁) ?_⟩;walk_nrm;u_c stepG_region_end jl hK;u_c stepG_seq jl hK;u_reg jl hK;u_op jl hK;u_c stepG_region_end jl hK;iterate 2 u_c stepG_seq jl hK
   u_reg jl hK;iterate 4 u_op jl hK
   u_skip jl hK;u_op jl hK;u_c stepG_region_end jl hK;u_cond false jl hK;u_c stepG_skip jl hK;u_c stepG_seq jl hK;u_reg jl hK;iterate 4 u_op jl hK
   refine Goes.stop (fun w₁ h₁=>?_);replace hK:=jl hK h₁;clear h₁;refine⟨rfl,rfl,fun⟨st,hw⟩=>stepG_semacquire_wait rfl rfl rfl H.f_semacquire (x_semacquire_n L) (x_semacquire_b L) (x_semacquire_x L) (x_semacquire_f L) (by simp[Act.eval,smA]) hw.cellSm,fun hf=>?_⟩;refine⟨_,(stepG_semacquire (n:=1) rfl rfl (by k_ne) rfl H.f_semacquire (x_semacquire_n L) (x_semacquire_b L) (x_semacquire_x L) (x_semacquire_f L) (by simp[Act.eval,smA]) hf.cellSm (by k_ne) (hf.thaw 1)).trans (by rfl),200,Sil.of (w:=w₁.setCell (smA Φ.Wg) (.int .u32 0)) ?_⟩;replace hK:=J.setSm hCW hK hf 0;generalize w₁.setCell (smA Φ.Wg) (.int .u32 0)=w₂ at hK;clear hf;walk_nrm;u_c stepG_region_end jl hK;u_c stepG_seq jl hK;u_reg jl hK;iterate 3 u_op jl hK
   u_call H.f_uLoad (nm_uLoad L) uLoadFn jl hK;u_c stepG_seq jl hK;u_reg jl hK;u_op jl hK;u_c stepG_region_end jl hK;u_c stepG_seq jl hK;u_reg jl hK;iterate 3 u_op jl hK
   refine Goes.stop (fun w₁ h₁=>?_);replace hK:=jl hK h₁;clear h₁;refine⟨rfl,fun hw=>⟨_,stepG_load_atomic (v:=0) rfl rfl (by k_ne) rfl H.f_loadU64 (x_loadU64_n L) (x_loadU64_b L) (x_loadU64_x L) .u64 (x_loadU64_f L) rfl hw.cellSt,200,Sil.of (w:=w₁) ?_⟩⟩;clear hw;walk_nrm;u_op jl hK;u_c stepG_region_end jl hK;u_c stepG_ret' jl hK;u_leave1 H.f_uLoad jl hK;iterate 2 u_op jl hK
   u_c stepG_region_end jl hK;u_c stepG_seq jl hK;u_cond true jl hK;u_c stepG_seq jl hK;u_reg jl hK;refine Goes.stop (fun w₁ h₁=>?_);replace hK:=jl hK h₁;clear h₁;refine⟨rfl,_,stepG_mark0 .enable (by simp) rfl rfl (by k_ne) rfl H.f_enable (x_enable_n L) (x_enable_b L) (x_enable_x L) (x_enable_f L),100,Sil.of (w:=w₁) ?_⟩;walk_nrm;u_c stepG_region_end jl hK;u_reg jl hK;u_op jl hK;u_conv H.underlying_tWgP H.room_tWg (J.cell0 hK).choose_spec jl hK;refine Goes.stop (fun w₁ h₁=>?_);replace hK:=jl hK h₁;clear h₁;refine⟨rfl,_,_,stepG_markAt .acquire (by simp) rfl rfl (by k_ne) rfl H.f_acquire (x_acquire_n L) (x_acquire_b L) (x_acquire_x L) (x_acquire_f L) (by simp[Act.eval,stA]),fun S Post hh K=>?_⟩;clear hK;walk_nrm;refine Safe.ym (fun _ _=>stepG_region_end) ?_;refine Safe.ym (fun _ _=>stepG_seq) ?_;refine Safe.ym (fun _ _=>stepG_seq) ?_
   (refine Safe.ym (fun _ _=>stepG_region) ?_;simp only[List.size_toArray,List.length_cons,List.length_nil,Nat.zero_add,List.range,List.range.loop])
   (apply FQ;(case ho=>rfl);(case hw=>rfl);(case hk=>k_ne);(case hr=>intro w;go_simp;(try simp only[q3,q4,q5,q6,a1,b1,b2,c1,c3,c4]);first | rfl | (w_num;rfl));(case he=>intro w;simp[go_sem, *]);walk_nrm)
   refine Safe.ym (fun _ _=>stepG_region_end) ?_
   (refine Safe.ym (fun _ _=>stepG_cond (t:=false) rfl) ?_;simp only[vK,↓reduceIte])
   refine Safe.ym (fun _ _=>stepG_skip) ?_;refine Safe.ym (fun _ _=>stepG_ret') ?_;refine Nn rfl rfl H.f_wait rfl ?_;exact K
  ·refine⟨_,stepG_cas_miss (v:=(v':Int)*KK) (old:=S) (n:=S+1) rfl rfl (by k_ne) rfl H.f_casU64 (x_casU64_n L) (x_casU64_b L) (x_casU64_x L) .u64 (x_casU64_f L) rfl rfl rfl hw.cellSt (hw.thaw 0) (by rw[<-hS];simp only[KK];omega),100,Sil.of (w:=w₁) ?_⟩;clear hw;walk_nrm;u_op jl hK;u_c stepG_region_end jl hK;u_c stepG_ret' jl hK;u_leave1 H.f_uCas jl hK;u_c stepG_region_end jl hK;u_cond false jl hK;u_c stepG_skip jl hK;u_c stepG_inBlock jl hK;u_c stepG_inLoop jl hK;exact Goes.stop fun _ _=>⟨_,rfl,by simp,by simp⟩
theorem Wt(H:WgLib P L)(hCW:Φ.C≠Φ.Wg)(w:World)(hK:Φ.J w) :
  kV P Φ (PH P (b₀.at (a₀.put ((ops₀[i₀]?).bind (·.dst)) (.tuple #[])) (.inRegion ops₀ rest₀::k₀)) cs)
   ((base L.wait).at ⟨#[.pointer (some ⟨Φ.Wg,0,none⟩),undef,undef,undef,undef,undef,undef,undef,undef,undef,undef,undef,undef,undef,undef,undef,undef,undef,undef,undef,undef,undef,undef,undef,undef,undef,undef,undef,undef,undef,undef,undef,undef,undef,undef,undef,undef,undef,undef,undef,undef,undef,undef,undef,undef,undef,undef,undef,undef,undef,undef,undef,undef,undef,undef,undef,undef,undef,undef,undef,undef,undef,undef,undef,undef,undef,undef,undef,undef,undef,undef,undef,undef,undef,undef,undef,undef,undef,undef,undef,undef,undef,undef,undef],[]⟩ [.code (body_wait L)]) (b₀.at a₀ (.inRegion ops₀ (i₀::rest₀)::k₀)::cs):=by
 refine⟨S4 L Φ.Wg (b₀.at a₀ (.inRegion ops₀ (i₀::rest₀)::k₀)) cs,fun g hg=>⟨100,Sil.of (UG H hCW g hg w hK)⟩,100,Sil.of (w:=w) ?_⟩
 lib_facts
 simp only[Z1];simp only[body_wait,waitFn,Option.getD_some];u_c stepG_seq jl hK;u_cond true jl hK;u_reg jl hK;refine Goes.stop (fun w₁ h₁=>?_);replace hK:=jl hK h₁;clear h₁;refine⟨rfl,_,stepG_mark0 .disable (by simp) rfl rfl (by k_ne) rfl H.f_disable (x_disable_n L) (x_disable_b L) (x_disable_x L) (x_disable_f L),3,Sil.of (w:=w₁) ?_⟩;walk_nrm;u_c stepG_region_end jl hK;u_c stepG_block jl hK;u_c stepG_loop jl hK;exact Goes.stop (fun w₂ h₂=>⟨_,rfl,by simp,by simp⟩)
end
end Go.Eng
namespace Go.Eng
open Go
variable {z:Nat}
section
variable {P:Program}{S:Shared}{ops:Array Oper}{Q:Act -> Heap -> Heap -> Prop}
theorem Wu{Post:Frame->List Frame->Heap->Prop}{b:Frame}{k:List Item}{cs:List Frame}(hp:Up S Post)(r:List Nat) :
  ∀(l:List Nat) (a:Act) (L h:Heap),Ok S h L->qM P S ops Q l a L h->(∀a' L' h',Ok S h' L'->Q a' L' h'->Safe P S Post (b.at a' (.inRegion ops r::k)) cs (plus h' L')) ->
   Safe P S Post (b.at a (.inRegion ops (l++r)::k)) cs (plus h L):=by
 intro l;induction l with
 | nil=>intro a L h ha H K;exact K a L h ha H
 | cons i rest ih=>
  intro a L h ha H K;simp only[qM,kY]at H;cases ho:ops[i]? with
  | none=>
   simp only[ho]at H;refine .J7 (by simp[ho]) ?_;simp only[ho,Option.bind_none,Act.put];exact ih a L h ha H K
  | some o=>
   simp only[ho]at H;by_cases hw:Region.wanted o (yielded ops a.tmps)=true
   ·simp only[hw,if_true]at H;cases H with
    | step H=>exact .op ho hw fun w hh=>kX _ (H w hh) fun n w' ⟨v,L',h',h1,h2,h3,_,_,h5⟩=>⟨v,plus h' L',h1,h3,ih _ L' h' h2 h5 K⟩
    | call f args R hx hc H=>exact .SM hp ho hw hx hc ha.apart fun v h' hr hi hap=>ih _ L h' ⟨hap,hi⟩ (H v h' hr ⟨hap,hi⟩).2 K
   ·simp only[hw,if_false,vK]at H;refine .J7 (by simp[ho];simpa using hw) ?_;simp only[ho,Option.bind_some];exact ih _ L h ha H K
theorem put_defers(a:Act)(d:Option Tmp)(v:Value):(a.put d v).defers=a.defers:=by cases d <;> rfl
theorem QC:∀(l:List Nat) (a:Act) (L h:Heap),qM P S ops Q l a L h->qM P S ops (fun a' L' h'=>a'.defers=a.defers/\Q a' L' h') l a L h:=by
 have mono:∀(l:List Nat) (a:Act) (L h:Heap) {Q Q':Act->Heap->Heap->Prop},(∀a L h,Q a L h->Q' a L h)->qM P S ops Q l a L h->qM P S ops Q' l a L h:=by
  intro l;induction l with
  | nil=>intro a L h Q Q' hk H;exact hk _ _ _ H
  | cons i rest ih=>
   intro a L h Q Q' hk H;simp only[qM,kY]at H ⊢;cases ho:ops[i]? with
   | none=>simp only[ho]at H ⊢;exact ih _ _ _ hk H
   | some o=>
    simp only[ho]at H ⊢;by_cases hw:Region.wanted o (yielded ops a.tmps)=true
    ·simp only[hw,if_true]at H ⊢;exact H.mono fun v L' h' _ _ ⟨h1,h2⟩=>⟨h1,ih _ _ _ hk h2⟩
    ·simp only[hw,if_false,vK]at H ⊢;exact ih _ _ _ hk H
 intro l;induction l with
 | nil=>intro a L h H;exact⟨rfl,H⟩
 | cons i rest ih=>
  intro a L h H;simp only[qM,kY]at H ⊢;cases ho:ops[i]? with
  | none=>simp only[ho]at H ⊢;exact ih _ _ _ H
  | some o=>
   simp only[ho]at H ⊢;by_cases hw:Region.wanted o (yielded ops a.tmps)=true
   ·simp only[hw,if_true]at H ⊢;exact H.mono fun v L' h' _ _ ⟨h1,h2⟩=>⟨h1,mono _ _ _ _ (fun a' L' h' ⟨e,hq⟩=>⟨e.trans (put_defers ..),hq⟩) (ih _ _ _ h2)⟩
   ·simp only[hw,if_false,vK]at H ⊢;exact mono _ _ _ _ (fun a' L' h' ⟨e,hq⟩=>⟨e.trans (put_defers ..),hq⟩) (ih _ _ _ H)
theorem S5(hn:ops.size=z+1)(h3:∀i o,ops[i]? = some o->∀e∈o.after,Region.binds .any e=true->e.on<i)
  (h2:∀o,ops[z]? = some o->∀i<z,∃e∈o.after,Region.binds .any e=true/\e.on=i){listed:Array Bool}(hs:listed.size=z+1)(hz:listed.getD z true=false)
  (hu:∃i<z,listed.getD i true=false):Region.ready .any ops listed=Region.ready .any ops (listed.setIfInBounds z true)/\Region.ready .any ops listed ≠ []:=by
 have gd:∀i:Nat,i≠z->∀d,(listed.setIfInBounds z true).getD i d=listed.getD i d:=fun i hi d=>by
  simp only[Array.getD_eq_getD_getElem?,Array.getElem?_setIfInBounds_ne (Ne.symm hi)]
 have gz:∀d,(listed.setIfInBounds z true).getD z d=true:=fun d=>by
  simp[Array.getD_eq_getD_getElem?,hs]
 have dd:∀i<z,listed.getD i true=listed.getD i false:=fun i hi=>by
  simp[Array.getD_eq_getD_getElem?,Array.getElem?_eq_getElem (show i<listed.size by omega)]
 constructor
 ·unfold Region.ready;refine List.filter_congr fun i hi=>?_
  rw[List.mem_range,hn]at hi;by_cases e:i=z
  ·subst e;rw[gz,hz];obtain⟨j,hj,hju⟩:=hu;cases ho:ops[i]? with
   | none=>simp
   | some o=>
    obtain⟨ed,he,hb,hon⟩:=h2 o ho j hj;have:(o.after.all fun e => !Region.binds .any e||listed.getD e.on false)=false:=by
     rw[Bool.eq_false_iff];intro hall;have h4:=Array.all_eq_true'.1 hall ed he;rw[hb,hon,<-dd j hj,hju]at h4;cases h4
    simp only[Option.map_some,Option.getD_some,this,Bool.not_true,Bool.false_and,Bool.and_false]
  ·rw[gd i e];congr 1;cases ho:ops[i]? with
   | none=>simp
   | some o=>
    simp only[Option.map_some,Option.getD_some];rw[Bool.eq_iff_iff,Array.all_eq_true',Array.all_eq_true'];refine forall_congr' fun ed=>forall_congr' fun hed=>?_
    cases hb:Region.binds .any ed with
    | false=>simp
    | true=>
     have:=h3 i o ho ed hed hb;rw[gd ed.on (by omega)]
 ·intro hnil;have all:∀n i,i<n->i<z->listed.getD i true=true:=by
   intro n;induction n with
   | zero=>intro i h;omega
   | succ n ih=>
    intro i hin hiz;cases hl:listed.getD i true with
    | true=>rfl
    | false=>
     have hi:i<ops.size:=by omega
     have:i∈Region.ready .any ops listed:=mem_ready.2 ⟨hl,ops[i],Array.getElem?_eq_getElem hi,fun ed hed hb=>by
      have h5:=h3 i _ (Array.getElem?_eq_getElem hi) ed hed hb
      rw[<-dd ed.on (by omega)]
      exact ih ed.on (by omega) (by omega)⟩
     rw[hnil]at this;cases this
  obtain⟨j,hj,hju⟩:=hu;rw[all (j+1) j (by omega) hj]at hju;cases hju
theorem Mr(hn:ops.size=z+1)(h3:∀i o,ops[i]? = some o->∀e∈o.after,Region.binds .any e=true->e.on<i)
  (h2:∀o,ops[z]? = some o->∀i<z,∃e∈o.after,Region.binds .any e=true/\e.on=i):∀(fuel t:Nat) (listed:Array Bool),listed.size=z+1->listed.getD z true=false ->
   ((List.range z).filter fun i => !listed.getD i true).length=fuel ->
   ∃t',Region.linearise.go .any ops (fuel+1) t listed []=Region.linearise.go .any ops fuel t (listed.setIfInBounds z true) []++[z]/\t'=t:=by
 intro fuel;induction fuel with
 | zero=>
  intro t listed hs hz hc;refine⟨t,?_,rfl⟩;have hall:∀i<z,listed.getD i true=true:=fun i hi=>by
   cases h:listed.getD i true with
   | true=>rfl
   | false=>
    have:i∈(List.range z).filter fun i => !listed.getD i true:=List.mem_filter.2 ⟨List.mem_range.2 hi,by simp[h]⟩
    rw[List.length_eq_zero_iff.1 hc]at this;cases this
  have hr:Region.ready .any ops listed=[z]:=by
   unfold Region.ready;rw[hn,List.range_succ,List.filter_append];have e1:(List.range z).filter (fun i => !listed.getD i true&&((ops[i]?).map (·.after.all fun e => !Region.binds .any e||listed.getD e.on false)).getD false)=[]:=by
    rw[List.filter_eq_nil_iff];intro i hi;rw[hall i (List.mem_range.1 hi)];simp
   rw[e1,vH];have hzl:z<ops.size:=by omega
   have e2:((ops[z]?).map (·.after.all fun e => !Region.binds .any e||listed.getD e.on false)).getD false=true:=by
    rw[Array.getElem?_eq_getElem hzl];simp only[Option.map_some,Option.getD_some];rw[Array.all_eq_true'];intro ed hed;cases hb:Region.binds .any ed with
    | false=>simp
    | true=>
     have h5:=h3 z _ (Array.getElem?_eq_getElem hzl) ed hed hb;have h6:=hall ed.on h5;simp[Array.getD_eq_getD_getElem?,Array.getElem?_eq_getElem (show ed.on<listed.size by omega)]at h6 ⊢;exact h6
   exact List.filter_eq_self.2 fun i hi=>by cases List.mem_singleton.1 hi;rw[hz,e2];rfl
  simp only[Region.linearise.go];change (match(Region.ready .any ops listed)[t%(Region.ready .any ops listed).length]? with
   | some i=>Region.linearise.go .any ops 0 (t/(Region.ready .any ops listed).length) (listed.setIfInBounds i true) [i]
   | none=>[].reverse)=_
  rw[hr];simp[Nat.mod_one,Region.linearise.go]
 | succ fuel ih=>
  intro t listed hs hz hc;refine⟨t,?_,rfl⟩;have hu:∃i<z,listed.getD i true=false:=by
   cases hl:(List.range z).filter fun i => !listed.getD i true with
   | nil=>rw[hl]at hc;cases hc
   | cons i r=>
    have:i∈(List.range z).filter fun i => !listed.getD i true:=by rw[hl];exact List.mem_cons_self
    obtain⟨h4,h5⟩:=List.mem_filter.1 this;exact⟨i,List.mem_range.1 h4,by simpa using h5⟩
  obtain⟨he,hne⟩:=S5 hn h3 h2 hs hz hu;have A:∀(f t:Nat) (l:Array Bool),Region.linearise.go .any ops (f+1) t l []=(match(Region.ready .any ops l)[t%(Region.ready .any ops l).length]? with
   | some i=>Region.linearise.go .any ops f (t/(Region.ready .any ops l).length) (l.setIfInBounds i true) [i]
   | none=>[]):=fun f t l=>by simp only[Region.linearise.go];rfl
  rw[A,A,<-he];have hlt:t%(Region.ready .any ops listed).length<(Region.ready .any ops listed).length:=Nat.mod_lt _ (by
   cases hr:Region.ready .any ops listed with
   | nil=>exact absurd hr hne
   | cons x xs=>simp)
  rw[List.getElem?_eq_getElem hlt];simp only[];have hmem:=List.getElem_mem hlt;generalize (Region.ready .any ops listed)[t%(Region.ready .any ops listed).length]=i at hmem;have hi1:=(mem_ready.1 hmem).1;have hiz:i≠z:=fun e=>by
   subst e;rw[he]at hmem;have:=(mem_ready.1 hmem).1;simp[Array.getD_eq_getD_getElem?,hs]at this
  have hilt:i<z:=by
   rcases Nat.lt_or_ge i listed.size with h | h
   ·omega
   ·simp[Array.getD_eq_getD_getElem?,Array.getElem?_eq_none h]at hi1
  rw[linearise_go_acc,linearise_go_acc _ _ _ _ _ [i]];have gi:∀j:Nat,(listed.setIfInBounds i true).getD j true=(if j=i then true else listed.getD j true):=fun j=>by
   by_cases e:j=i
   ·subst e;simp only[if_true,Array.getD_eq_getD_getElem?,Array.getElem?_setIfInBounds];split <;> simp
   ·simp only[if_neg e,Array.getD_eq_getD_getElem?,Array.getElem?_setIfInBounds_ne (Ne.symm e)]
  obtain⟨_,h6,_⟩:=ih (t/(Region.ready .any ops listed).length) (listed.setIfInBounds i true) (by simp[hs]) (by rw[gi,if_neg (Ne.symm hiz)];exact hz) (by
   have key:∀l:List Nat,l.Nodup->i∈l->(l.filter fun j => !(listed.setIfInBounds i true).getD j true).length+1=(l.filter fun j => !listed.getD j true).length:=by
    intro l
    induction l with
    | nil=>intro _ h;cases h
    | cons x xs ihl=>
     intro hnd hm
     obtain⟨hx,hnd⟩:=List.nodup_cons.1 hnd
     rw[List.filter_cons,List.filter_cons]
     rcases List.mem_cons.1 hm with rfl | hm
     ·have e5:(xs.filter fun j => !(listed.setIfInBounds i true).getD j true)=xs.filter fun j => !listed.getD j true:=
       List.filter_congr fun j hj=>by rw[gi,if_neg (fun e=>hx (by rw[<-e];exact hj))]
      rw[gi,if_pos rfl,hi1,e5];simp
     ·have hxi:x≠i:=fun e=>hx (by rw[e];exact hm)
      rw[gi,if_neg hxi]
      have:=ihl hnd hm
      cases listed.getD x true <;> simp only[Bool.not_true,Bool.not_false,vK,List.length_cons,↓reduceIte] <;> omega
   have:=key (List.range z) List.nodup_range (List.mem_range.2 hilt)
   omega)
  rw[h6,Array.setIfInBounds_comm _ _ hiz];simp
end
end Go.Eng
namespace Go.Eng
open Go
def PK(ops:Array Oper)(z:Nat):Bool:=
 ops.size==z+1&&((List.range (z+1)).all fun i=>match ops[i]? with | some o=>o.after.all (fun e => !Region.binds .any e||decide (e.on<i)) | none=>true) &&
  (match ops[z]? with | some o=>(List.range z).all fun i=>o.after.any fun e=>Region.binds .any e&&e.on==i | none=>true)
theorem linearise_last'{ops:Array Oper}{z:Nat}(h:PK ops z=true)(t:Nat) :
  Region.linearise.go .any ops (z+1) t (Array.replicate (z+1) false) []=Region.linearise.go .any ops z t ((Array.replicate (z+1) false).setIfInBounds z true) []++[z]:=by
 unfold PK at h;simp only[Bool.and_eq_true,beq_iff_eq]at h;obtain⟨⟨h1,h2⟩,h3⟩:=h;refine(Mr h1 (fun i o ho e he hb=>?_) (fun o ho i hi=>?_) z t _ (by simp) (by simp[Array.getD_eq_getD_getElem?]) ?_).choose_spec.1
 ·have hlt:i<z+1:=by
   rcases Nat.lt_or_ge i ops.size with h | h
   ·omega
   ·rw[Array.getElem?_eq_none h]at ho;cases ho
  have h4:=List.all_eq_true.1 h2 i (List.mem_range.2 hlt);rw[ho]at h4;have h5:=Array.all_eq_true'.1 h4 e he;rw[hb]at h5;simpa using h5
 ·rw[ho]at h3;have h4:=List.all_eq_true.1 h3 i (List.mem_range.2 hi);obtain⟨e,he,h5⟩:=Array.any_eq_true'.1 h4;simp only[Bool.and_eq_true,beq_iff_eq]at h5;exact⟨e,he,h5.1,h5.2⟩
 ·have:(List.range z).filter (fun i => !(Array.replicate (z+1) false).getD i true)=List.range z:=List.filter_eq_self.2 fun i hi=>by
   have:=List.mem_range.1 hi;simp[Array.getD_eq_getD_getElem?,show i<z+1 by omega]
  rw[this,List.length_range]
end Go.Eng
namespace Go.Eng
open Go
def Ms(l:List (Option (Sh×Nat))):List GV:=l.map fun | some (s,j)=>⟨[],.x (.var s j)⟩ | none=>⟨[],.junk⟩
variable {env:List Value}
theorem Wv{nums:List Nat}{s:Sh}{j:Nat}{u:Value}(h:env[j]? = some u)(hc:coerce s u=u):Good env nums (.var s j) u:=fun xs ys=>by
 have hlt:j<env.length:=(List.getElem?_eq_some_iff.1 h).1;simp only[Ex.ev,List.getD_eq_getElem?_getD,List.getElem?_append_left hlt,h,Option.getD_some,hc]
theorem Rel.init{l:List (Option (Sh×Nat))}{a:Act}{n d:Nat}{dv:Bool}(hn:n=env.length)(hl:l.length=a.tmps.size)(hd:dv=false->a.defers=[])
  (hv:∀(i:Nat) s j,l[i]? = some (some (s,j))->∃u,env[j]? = some u/\a.tmps.getD i undef=u/\coerce s u=u) :
  Rel { tmps:=Ms l,loc:=[],n:=n,known:=[],d:=d,dv:=dv } env [] a (fun _=>none):=by
 have key:∀(i:Nat) gv,(Ms l)[i]? = some gv->gv=⟨[],.junk⟩\/∃s j,l[i]? = some (some (s,j))/\gv=⟨[],.x (.var s j)⟩:=by
  intro i gv h;unfold Ms at h;rw[List.getElem?_map]at h;obtain⟨x,h1,rfl⟩:=Option.map_eq_some_iff.1 h;cases x with
  | none=>exact .inl rfl
  | some p=>exact .inr ⟨p.1,p.2,h1,rfl⟩
 refine⟨hn,rfl,by simp[Ms,hl],hd,?_,?_,?_,by simp,by simp,by simp⟩
 ·intro i g v h e he;rcases key i _ h with h | ⟨s,j,_,h⟩ <;> cases h <;> cases he
 ·intro i g v h _;rcases key i _ h with h | ⟨s,j,h1,h⟩
  ·cases h;trivial
  ·cases h
   obtain⟨u,h2,h3,h4⟩:=hv i s j h1;rw[h3];exact Wv h2 h4
 ·rintro i g v h ⟨e,he,_⟩;rcases key i _ h with h | ⟨s,j,_,h⟩ <;> cases h <;> cases he
end Go.Eng
namespace Go.Eng
open Go
def sxs(cfg:Cfg):List Code->St->Option Tr
 | [],st=>some (.leaf (.norm st))
 | r::rs,st=>match r with
  | .region _ ops draw=>(match sxR cfg ops draw st with | some t=>JE t (sxs cfg rs) | none=>none)
  | _=>none
def nest:List Code->Code->Code
 | [],c=>c
 | r::rs,c=>.seq r (nest rs c)
variable {n:Nat}{is:List Nat}{a:Act}{ps:List (Nat×Sh)}{env:List Value}{t:Tr}{h:Heap}{P:Program}{cs:List Frame}
section
variable {S:Shared}{cfg:Cfg}{Λ:Hand}{Q:Value -> Heap -> Prop}{Ks:List Kt}{Post:Frame -> List Frame -> Heap -> Prop}{b:Frame}{k:List Item}{c:Code}
theorem Z5(hT:zJ P cfg.tab)(hm:P.follows .mixedOrders=true)(hp:Up S Post)(hΛ:Λ.Er):∀(rs:List Code) (st:St) (t:Tr) (env:List Value) (nums:List Nat) (a:Act) (L h:Heap),
  sxs cfg rs st=some t->t.wp P S Λ Q env h Ks->Rel st env nums a L->Ok S h L ->
  (∀st' vs ms a' L' h',Λ (.norm st') (env++vs) h' Ks->Rel st' (env++vs) (nums++ms) a' L'->Ok S h' L'->Safe P S Post (b.at a' (.code c::k)) cs (plus h' L')) ->
  Safe P S Post (b.at a (.code (nest rs c)::k)) cs (plus h L):=by
 intro rs;induction rs with
 | nil=>
  intro st t env nums a L h ht hw H ha hf;simp only[sxs]at ht;cases ht
  exact hf st [] [] a L h (by simpa[Tr.wp]using hw) (by simpa using H) ha
 | cons r rs ih=>
  intro st t env nums a L h ht hw H ha hf;simp only[sxs]at ht;split at ht
  ·rename_i id ops draw;split at ht
   ·rename_i t1 ht1;have hw1:=Tr.wp_bind hΛ t1 t ht env h Ks hw;refine .seq (GL hT hm hp ht1 hw1 H ha ?_);rintro st' vs ms a' L' h' ⟨u,hu,huw⟩ H' ha' _;refine ih st' u _ _ a' L' h' hu huw H' ha' fun st2 vs2 ms2 a2 L2 h2 h3 h4 h5=>?_
    rw[List.append_assoc]at h3 h4;rw[List.append_assoc]at h4;exact hf st2 _ _ a2 L2 h2 h3 h4 h5
   ·cases ht
  ·cases ht
def got(st:St)(env:List Value)(i:Nat):Value:=match st.tmps[i]? with | some ⟨[],.x e⟩=>e.ev env [] | _=>undef
def isX(st:St)(i:Nat):Bool:=match st.tmps[i]? with | some ⟨[],.x _⟩=>true | _=>false
def jV(n:Nat)(is:List Nat)(R:(Nat->Value)->Heap->Prop):Hand:=fun l env h _=>∃st,l=.norm st/\st.loc=[]/\st.dv=false/\st.tmps.length=n/\is.all (isX st)=true/\R (got st env) h
theorem jV.mono{R:(Nat->Value)->Heap->Prop}:(jV n is R).Er:=fun _ _ _ _ _ _ h=>h
def Reach(S:Shared)(b:Frame)(n:Nat)(k:List Item)(cs:List Frame)(is:List Nat)(R:(Nat->Value)->Heap->Prop)(fr:Frame)(cs':List Frame)(H:Heap):Prop:=
 cs'=cs/\∃a f h',fr=b.at a k/\a.tmps.size=n/\a.defers=[]/\(∀i∈is,a.tmps.getD i undef=f i)/\R f h'/\Sub h' H/\Inv S h'
theorem Reach.up{R:(Nat->Value)->Heap->Prop}:Up S (Reach S b n k cs is R):=
 fun _ _ _ _ ⟨h1,a,f,h',h2,h3,h4,h5,h6,h7,h8⟩ hs _=>⟨h1,a,f,h',h2,h3,h4,h5,h6,h7.trans hs,h8⟩
def lOf(n:Nat)(ps:List (Nat×Sh)):List (Option (Sh×Nat)):=(List.range n).map fun i=>(ps.zipIdx.find? fun p=>p.1.1==i).map fun p=>(p.1.2,p.2)
def EB(n:Nat)(ps:List (Nat×Sh)):St:={ tmps:=Ms (lOf n ps),loc:=[],n:=ps.length,known:=[],d:=0,dv:=false }
def wB(a:Act):List (Nat×Sh)->List Value->Prop
 | [],[]=>True
 | p::ps,u::us=>a.tmps.getD p.1 undef=u/\coerce p.2 u=u/\wB a ps us
 | _,_=>False
theorem wB.get:∀ {ps:List (Nat×Sh)} {us:List Value},wB a ps us->ps.length=us.length/\∀(j:Nat) (p:Nat×Sh),ps[j]? = some p->∃u,us[j]? = some u/\a.tmps.getD p.1 undef=u/\coerce p.2 u=u
 | [],[],_=>⟨rfl,fun j p h=>by simp at h⟩
 | p::ps,u::us,⟨h1,h2,h3⟩=>by
  obtain⟨e,ih⟩:=wB.get h3;refine⟨by simp[e],fun j q h=>?_⟩;cases j with
  | zero=>simp at h;subst h;exact⟨u,rfl,h1,h2⟩
  | succ j=>exact ih j q (by simpa using h)
 | [],_::_,h=>h.elim
 | _::_,[],h=>h.elim
theorem Rel.of(hs:wB a ps env)(hn:a.tmps.size=n)(hd:a.defers=[]):Rel (EB n ps) env [] a (fun _=>none):=by
 obtain⟨e,hg⟩:=hs.get;refine Rel.init e (by simp[lOf,hn]) (fun _=>hd) fun i s j h=>?_
 unfold lOf at h;rw[List.getElem?_map]at h;obtain⟨i',h1,h2⟩:=Option.map_eq_some_iff.1 h;have hii:i'=i:=by
  have:=(List.getElem?_eq_some_iff.1 h1).2;simpa using this.symm
 subst hii;obtain⟨⟨p,j'⟩,h3,h4⟩:=Option.map_eq_some_iff.1 h2;simp only[Prod.mk.injEq]at h4;obtain⟨rfl,rfl⟩:=h4;have h5:=List.find?_some h3;have h6:=List.mem_zipIdx_iff_getElem?.1 (List.mem_of_find?_eq_some h3);simp only[beq_iff_eq]at h5 h6;obtain⟨u,k1,k2,k3⟩:=hg _ _ h6;exact⟨u,k1,by rw[<-h5];exact k2,k3⟩
theorem FR(hT:zJ P cfg.tab)(hm:P.follows .mixedOrders=true){rs:List Code}{R:(Nat->Value)->Heap->Prop}
  (ht:sxs cfg rs (EB n ps)=some t)(hs:wB a ps env)(hn:a.tmps.size=n)(hd:a.defers=[])(hi:Inv S h)(hw:t.wp P S (jV n is R) (fun _ _=>True) env h []) :
  Safe P S (Reach S b n (.code c::k) cs is R) (b.at a (.code (nest rs c)::k)) cs h:=by
 have ha:Ok S h (fun _=>none):=⟨fun b hb=>absurd rfl hb,hi⟩;rw[<-xK h];refine Z5 (Q:=fun _ _=>True) (Ks:=[]) hT hm Reach.up jV.mono rs _ t env [] a _ h ht hw (Rel.of hs hn hd) ha ?_;rintro st' vs ms a' L' h' ⟨st,e,hl,hdv,hsz,his,hR⟩ H' ha';cases e
 have hms:ms=[]:=by
  have:=H'.m;rw[hl]at this;simpa using this.symm
 subst hms;refine .done ⟨rfl,a',_,h',rfl,?_,H'.df hdv,fun i hi=>?_,hR,fun x o hx=>by simp[plus,hx],ha'.inv⟩
 ·rw[<-H'.sz];exact hsz
 ·have hx:=List.all_eq_true.1 his i hi;unfold isX at hx;unfold got;split at hx
  ·rename_i e he;have:=Good.at (H'.vl i [] _ he (by simp));simpa using this.symm
  ·cases hx
theorem Z6(hT:zJ P cfg.tab)(hm:P.follows .mixedOrders=true){r:Code}{R:(Nat->Value)->Heap->Prop}
  (ht:sxs cfg [r] (EB n ps)=some t)(hs:wB a ps env)(hn:a.tmps.size=n)(hd:a.defers=[])(hi:Inv S h)(hw:t.wp P S (jV n is R) (fun _ _=>True) env h []) :
  Safe P S (Reach S b n k cs is R) (b.at a (.code r::k)) cs h:=by
 have ha:Ok S h (fun _=>none):=⟨fun b hb=>absurd rfl hb,hi⟩;rw[<-xK h];simp only[sxs]at ht;split at ht
 ·rename_i id ops draw;split at ht
  ·rename_i t1 ht1;have hw1:=Tr.wp_bind jV.mono t1 t ht env h [] hw;refine GL (Ks:=[]) hT hm Reach.up ht1 hw1 (Rel.of hs hn hd) ha ?_;rintro st' vs ms a' L' h' ⟨u,hu,huw⟩ H' ha' _;cases hu
   obtain⟨st,e,hl,hdv,hsz,his,hR⟩:=huw;cases e
   have hms:ms=[]:=by
    have:=H'.m;rw[hl]at this;simpa using this.symm
   subst hms;refine .done ⟨rfl,a',_,h',rfl,by rw[<-H'.sz];exact hsz,H'.df hdv,fun i hi=>?_,hR,fun x o hx=>by simp[plus,hx],ha'.inv⟩;have hx:=List.all_eq_true.1 his i hi;unfold isX at hx;unfold got;split at hx
   ·rename_i e he;have:=Good.at (H'.vl i [] _ he (by simp));simpa using this.symm
   ·cases hx
  ·cases ht
 ·cases ht
end
section
open Go.Conc Go.ConcR
variable {Φ:Ph}{cs' : List Frame}{fr fr' : Frame}
theorem Sil.step{main:Bool}{J:World->Prop}{Stop:Goroutine->World->Prop}{n:Nat}{g g':Goroutine}(hr:g.status=.running)(hs:∀w,stepG P main g w=.go g' w #[])(H:Sil P main J Stop n g'):Sil P main J Stop (n+1) g:=
 fun w=>Goes.step hr fun w₁ h₁=>by
  rw[hs w₁];exact⟨⟨rfl,rfl⟩,H w₁⟩
theorem Bi.step{Nx:Frame->List Frame->Prop}(hs:∀w,stepG P true (gor fr cs) w=.go (gor fr' cs') w #[])(H:Bi P Φ Nx fr' cs'):Bi P Φ Nx fr cs:=
 let⟨m,h⟩:=H
 ⟨m+1,Sil.step rfl hs h⟩
theorem kV.step{Nx:Frame->List Frame->Prop}(hs:∀w,stepG P true (gor fr cs) w=.go (gor fr' cs') w #[])(H:kV P Φ Nx fr' cs'):kV P Φ Nx fr cs:=
 let⟨Anch,h1,m,h⟩:=H
 ⟨Anch,h1,m+1,Sil.step rfl hs h⟩
theorem PM{s:GStep}{g:Goroutine}{w:World}{es:Array Event}(h:s.goes (fun g' w' es'=>g'=g/\w'=w/\es'=es)):s=.go g w es:=by
 cases s <;> simp only[GStep.goes]at h
 obtain⟨rfl,rfl,rfl⟩:=h;rfl
theorem Sp.pre{Q:Frame->List Frame->Heap->Prop}{r:Nat}(H:Safe P Φ.S (fun fr cs h=>Sp P Φ Q r fr cs h) fr cs h):Sp P Φ Q r fr cs h:=by
 cases r with
 | zero=>exact H.bind fun _ _ _ x=>x
 | succ r=>exact H.bind fun _ _ _ x=>x
end
end Go.Eng
end
section
namespace Go.Proofs.YtopmdepgpabipaaGreatDoor
open Go Go.Eng Go.Conc Go.RowKit Go.Conc.Lib Go.ConcR.Gen
open Go.ConcR (KK wgBlock WgAt stA smA rd wr DC0 Payload)
instance:Payload:=⟨70⟩
noncomputable def Lb:Code:=Tryz.f103.body.getD .skip
noncomputable def Jv:Array Oper:=match Lb with | .seq (.region _ ops _) _=>ops | _=>#[]
noncomputable def Aw:Array Oper:=match Lb with | .seq _ (.region _ ops _)=>ops | _=>#[]
theorem Ww:Lb=.seq (.region 0 Jv false) (.region 1 Aw true):=by kernel_rfl
def Z7:List (TypeId×TyD):=[(0,⟨.oth,1,0,[],none,some []⟩),(3,⟨(.int .i64),1,8,[.int .i64],some [(1,(.int .i64 0))],none⟩),(5,⟨(.int .u8),1,1,[.int .u8],some [(1,(.int .u8 0))],none⟩),(70,⟨(.int .u32),1,4,[.int .u32],some [(1,(.int .u32 0))],none⟩),(22,⟨(.sl 5),1,24,[.slice],some [(1,.nilSl)],none⟩),(137,⟨(.sl 70),1,24,[.slice],some [(1,.nilSl)],none⟩),(140,⟨.fnk,1,8,[.fnv],some [(1,.nilFn)],none⟩)]
theorem Z8:zJ oPP Z7:=IY (by kernel_rfl)
theorem Z9:oPP.follows .mixedOrders=true:=by kernel_rfl
def cW:Cfg:=⟨Z7,[],[],[]⟩
def stW:St:={ tmps:=[⟨[],.x (.var .addr 0)⟩,⟨[],.x (.var .addr 1)⟩,⟨[],.x (.var .addr 2)⟩,⟨[],.x (.var .addr 3)⟩,⟨[],.x (.var .addr 4)⟩]++List.replicate 6 ⟨[],.junk⟩,loc:=[],n:=5,known:=[],d:=0,dv:=true }
def stW':St:={ tmps:=[⟨[],.x (.var .addr 0)⟩,⟨[],.x (.var .addr 1)⟩,⟨[],.x (.var .addr 2)⟩,⟨[],.x (.var .addr 3)⟩,⟨[],.x (.var .addr 4)⟩,⟨[],.x (.var .slice 5)⟩,⟨[],.x (.var (.int .i64) 6)⟩,⟨[],.x (.var .fnv 7)⟩,⟨[],.x (.var .slice 8)⟩,⟨[],.x (.var (.int .u32) 9)⟩,⟨[],.x (.ix 1 (.var .slice 5) (.var (.int .i64) 6))⟩],loc:=[],n:=10,known:=[],d:=0,dv:=true }
def tW:Tr:=
(.load (.var (.addr) 3) [.slice]
(.load (.var (.addr) 4) [.int .i64]
(.load (.var (.addr) 1) [.fnv]
(.load (.var (.addr) 2) [.slice]
(.callv (.var (.fnv) 7) [(.x (.var (.slice) 8))] false [(false,[.int .u32])]
(.still [((.var (.addr) 4),(.var (.int .i64) 6)),((.var (.addr) 3),(.var (.slice) 5))]
(.need (.nt (.nn (.var (.slice) 5)))
(.need (.cm .leq (.cst (.int .i64 0)) (.var (.int .i64) 6))
(.need (.cm .lss (.var (.int .i64) 6) (.ln (.var (.slice) 5)))
(.leaf (.norm stW')))))))))))
def Io:Array Bool:=(Array.replicate 7 false).setIfInBounds 6 true
theorem sW:sxA cW Aw 6 Io [] stW=some tW:=by kernel_rfl
theorem za3:PK Aw 6=true:=by kernel_rfl
theorem zaX:Region.noSelect Aw=true:=by kernel_rfl
theorem za4:Aw.size=7:=by kernel_rfl
theorem zaY:Aw[6]? = some { dst:=none,op:=.store 70 (.tmp 10) (.tmp 9),type:=0,pos:=(Aw[6]?.map (·.pos)).getD "",after:=(Aw[6]?.map (·.after)).getD #[],guard:=none }:=by kernel_rfl
theorem ZA:(oPP.funcs[(baseD 103).fn]?).any (·.norace)=false:=by kernel_rfl
noncomputable def bot:Frame:={ (default:Frame)with fn:=oPP.funcs.size,defers:=[],mode:=.panicking [goexitEntry] }
def Fo(wg fb pb sb ib:Nat):Deferred:={ target:=.fn (.func 103) #[.pointer (some ⟨wg,0,none⟩),.pointer (some ⟨fb,0,none⟩),.pointer (some ⟨pb,0,none⟩),.pointer (some ⟨sb,0,none⟩),.pointer (some ⟨ib,0,none⟩)],args:=#[] }
noncomputable def Og(d:Deferred):Frame:={ (default:Frame)with fn:=oPP.funcs.size,defers:=[d],mode:=.panicking [goexitEntry] }
def qq(wg fb pb sb ib:Nat):Array Value:=#[.pointer (some ⟨wg,0,none⟩),.pointer (some ⟨fb,0,none⟩),.pointer (some ⟨pb,0,none⟩),.pointer (some ⟨sb,0,none⟩),.pointer (some ⟨ib,0,none⟩)]
theorem UH(wg fb pb sb ib:Nat)(m:Bool)(w:World):stepG oPP m (gor (Og (Fo wg fb pb sb ib)) []) w =
  .go (gor ((baseD 103).at ⟨qq wg fb pb sb ib++#[undef,undef,undef,undef,undef,undef],[]⟩ [.code Lb]) [bot]) w #[]:=by
 simp[gor,Og,qq,Fo,stepG,unwind,callDeferred,invoke,callFunc,Tryz.func103,Tryz.f103,seen,GStep.after,Frame.enter,Frame.at,baseD,bot,Lb]
variable {x:Int}
section
variable {Φ:Ph}{i:Nat}
theorem Wx:Up Φ.S (Ik oPP Φ i):=fun fr cs h1 h2 H hs _ w hw hJ=>H w (fun b o hb=>hw b o (hs b o hb)) hJ
theorem ZB(T:Array Value)(td:List Item):QuitsD oPP 2 0 (G { (baseD 103).at ⟨T,[]⟩ td with mode:=.returning } [bot]):=by
 refine QuitsD.ctl (g':=G bot []) rfl (fun w=>?_) ?_
 ·simp[G,stepG,unwind,doReturn,results,Frame.at,baseD,bot,Tryz.func103,Tryz.f103,seen,GStep.after,goexitEntry]
 refine QuitsD.ctl (g':={ G bot []with status:=.finished }) rfl (fun w=>?_) ⟨rfl,rfl⟩;simp[G,stepG,unwind,bot,goexitEntry,Frame.catches];rfl
theorem za5(hty:Φ.ty=Tryz.link.tWg)(hCW:Φ.C≠Φ.Wg)(hi:i<Φ.n)(hval:Φ.val i=.int .u32 x){a:Act}(hd:a.defers=[dcall 104 #[.pointer (some ⟨Φ.Wg,0,none⟩)]])
  (h9:a.tmps.getD 9 undef=.int .u32 x)(h10:a.tmps.getD 10 undef=.pointer (some ⟨Φ.C,i,none⟩))(h:qaA) :
  Ik oPP Φ i ((baseD 103).at a [.inRegion Aw [6]]) [bot] h:=by
 intro w hw hJ;obtain⟨arr,p1,p2⟩:=hJ.2;have hc:w.cell? ⟨Φ.C,i,none⟩=some (arr[i]'(by omega)):=by simp[World.cell?,p1,p2,hi]
 have hz:w.frozen? ⟨Φ.C,i,none⟩=false:=by simp[World.frozen?,p1]
 have hr:(execOp a.eval { dst:=none,op:=.store 70 (.tmp 10) (.tmp 9),type:=0,pos:=(Aw[6]?.map (·.pos)).getD "",after:=(Aw[6]?.map (·.after)).getD #[],guard:=none }).run oPP w=.ok .skip (w.setCell ⟨Φ.C,i,none⟩ (.int .u32 x)):=by
  unfold execOp;simp only[Act.eval,h9,h10];simp[go_sem,stored,hc,hz]
 have he:(execOp a.eval { dst:=none,op:=.store 70 (.tmp 10) (.tmp 9),type:=0,pos:=(Aw[6]?.map (·.pos)).getD "",after:=(Aw[6]?.map (·.after)).getD #[],guard:=none }).events oPP w #[]=#[⟨.cell ⟨Φ.C,i,none⟩,true,false⟩]:=by
  unfold execOp;simp only[Act.eval,h9,h10];simp[go_sem,storedEv,hc,hz]
 have st:=stepG_none (P:=oPP) (main:=false) (b:=baseD 103) (a:=a) (k:=[]) (cs:=[bot]) (w:=w) (rest:=[]) zaY rfl (by decide) hr;unfold listed at st;rw[he,seen_eq ZA (by simp)]at st;rw[hval];refine⟨_,st,200,?_⟩;have hK:Φ.J (w.setCell ⟨Φ.C,i,none⟩ (.int .u32 x)):=by
  refine⟨let⟨st,sm,y⟩:=hJ.1;⟨st,sm,y.of_block ((aside_setCell _ ⟨Φ.C,i,none⟩ _).block _ (Ne.symm hCW))⟩,arr.setIfInBounds i (.int .u32 x),?_,by simpa using p2⟩;rw[setCell_eq_setRow w Φ.C i arr _ (0,0) _ p1,setRow_heap w Φ.C _ _ _ _ p1]
 generalize w.setCell ⟨Φ.C,i,none⟩ (.int .u32 x)=w₁ at hK;clear st he hr hc hz p1 hw hJ;refine Sil.of (w:=w₁) ?_;obtain⟨T,D⟩:=a;simp only at hd;subst hd;simp only[Act.put];u_c stepG_region_end jl hK;u_c stepG_end jl hK;u_in jl hK;rw[stepG_unwind_enter rfl Tryz.func104 (nm_done Tryz.link) rfl];simp only[goes_go];refine⟨by u_nil,?_⟩
 walk_nrmf Tryz.f104
 have hA:=@Ws _ oPP Tryz.link Φ [bot] 2 Tryz.KU hCW _ rfl (ZB T []) _ hK;simp only[body_done,doneFn,Option.getD_some]at hA;exact Goes.mono hA (by omega)
theorem Yu:(Jv[0]?.map fun o=>(o.dst,o.guard))=some (none,none):=by kernel_rfl
theorem Yv:(Jv[0]?.map fun o=>o.op)=some (.defer { callee:=.value (.func 104),args:=#[.tmp 0],argTypes:=((Jv[0]?.map fun o=>match o.op with | .defer c=>c.argTypes | _=>#[]).getD #[]) }):=by kernel_rfl
theorem ZC:∃o ats,Jv[0]? = some o/\o.dst=none/\o.guard=none/\o.op=.defer { callee:=.value (.func 104),args:=#[.tmp 0],argTypes:=ats }:=by
 have h1:=Yu;have h2:=Yv;cases h:Jv[0]? with
 | none=>rw[h]at h1;cases h1
 | some o=>
  rw[h]at h1 h2;simp only[Option.map_some,Option.some.injEq,Prod.mk.injEq]at h1 h2;exact⟨o,_,rfl,h1.1,h1.2,h2⟩
theorem za6:Jv.size=1:=by kernel_rfl
def lW:List (Option (Sh×Nat)):=[some (.addr,0),some (.addr,1),some (.addr,2),some (.addr,3),some (.addr,4),none,none,none,none,none,none]
theorem ZD:stW={ tmps:=Ms lW,loc:=[],n:=5,known:=[],d:=0,dv:=true }:=rfl
def ZE(C:Nat)(i:Nat)(x:Int):Hand:=fun l env _ _=>l=.norm stW'/\(∃n c,env[5]? = some (.slice (some ⟨C,0,none⟩) n c))/\env[6]? = some (.int .i64 i)/\env[9]? = some (.int .u32 x)
theorem za7(hnb:∀fr cs h Q,¬Φ.S.big fr cs h Q)(hty:Φ.ty=Tryz.link.tWg)(hCW:Φ.C≠Φ.Wg)(hi:i<Φ.n)(hval:Φ.val i=.int .u32 x){hc:qaA}(hin:Inv Φ.S hc)
  {fb pb sb ib:Nat}{g:FuncId}{pa:Option Addr}{pl pc:Nat}
  (hf:zj hc ⟨fb,0,none⟩=some (.func (.func g) #[] #[]))(hp:zj hc ⟨pb,0,none⟩=some (.slice pa pl pc))(hs:zj hc ⟨sb,0,none⟩=some (.slice (some ⟨Φ.C,0,none⟩) Φ.n Φ.n))
  (hib:zj hc ⟨ib,0,none⟩=some (.int .i64 i))(hsum:zb oPP Φ.S g #[.slice pa pl pc] hc (fun v h'=>v=.int .u32 x/\qaB hc h')) :
  Works oPP Φ i (Og (Fo Φ.Wg fb pb sb ib)) [] hc:=by
 refine Safe.zaU hnb false Φ.J ?_;refine Safe.ym (fun w m=>UH _ _ _ _ _ m w) ?_;rw[Ww];refine .seq (.region ?_);rw[za6];obtain⟨oD,ats,d1,d2,d3,d4⟩:=ZC;refine Safe.ym (fun w m=>stepG_defer (rest:=[]) d1 (by simp[Region.wanted,d3]) (by decide) d4) ?_;rw[d2];refine .BP (.J6 fun t'=>?_);have e:Region.schedule (oPP.follows .mixedOrders) Aw t'=Region.linearise.go .any Aw 6 t' Io []++[6]:=by
  simp only[Region.schedule,Z9,Region.linearise,za4,Bool.true_or,if_true];exact linearise_last' za3 t'
 rw[e,<-xK hc];have ha:Ok Φ.S hc (fun _=>none):=⟨fun b hb=>absurd rfl hb,hin⟩;have env:List Value:=[];have H:Rel stW [.pointer (some ⟨Φ.Wg,0,none⟩),.pointer (some ⟨fb,0,none⟩),.pointer (some ⟨pb,0,none⟩),.pointer (some ⟨sb,0,none⟩),.pointer (some ⟨ib,0,none⟩)] []
   (Act.put ⟨qq Φ.Wg fb pb sb ib++#[undef,undef,undef,undef,undef,undef],[dcall 104 (#[.tmp 0].map (Act.eval ⟨qq Φ.Wg fb pb sb ib++#[undef,undef,undef,undef,undef,undef],[]⟩))]⟩ none undef) (fun _=>none):=by
  rw[ZD];refine Rel.init rfl rfl (fun h=>by cases h) fun i s j h=>?_
  match i,h with
  | 0,h=>cases h;exact⟨_,rfl,rfl,rfl⟩
  | 1,h=>cases h;exact⟨_,rfl,rfl,rfl⟩
  | 2,h=>cases h;exact⟨_,rfl,rfl,rfl⟩
  | 3,h=>cases h;exact⟨_,rfl,rfl,rfl⟩
  | 4,h=>cases h;exact⟨_,rfl,rfl,rfl⟩
  | 5,h=>cases h
  | 6,h=>cases h
  | 7,h=>cases h
  | 8,h=>cases h
  | 9,h=>cases h
  | 10,h=>cases h
  | _+11,h=>cases h
 refine Wu Wx [6] _ _ _ _ ha (QC _ _ _ _ (J9 6 t' [] Io _ _ _ ha (To Z8 zaX (R:=fun a' _ _=>a'.tmps.getD 9 undef=.int .u32 x/\a'.tmps.getD 10 undef=.pointer (some ⟨Φ.C,i,none⟩))
  (Λ:=ZE Φ.C i x) (Q:=fun _ _=>True) (Ks:=[]) 6 Io [] stW tW _ [] _ _ hc [] sW ?_ H ha (fun q hq=>by cases hq) (.nil _) ?_))) ?_
 ·have hn:∀ {a:Addr} {v:Value} {h':qaA},qaB hc h'->zj hc a=some v->zj h' a=some v:=fun s hv=>by
   unfold zj at hv ⊢;cases e:hc _ with
   | none=>rw[e]at hv;cases hv
   | some o=>rw[e]at hv;rw[s _ o e];exact hv
  simp only[tW,Tr.wp,z4,Ex.ev,coerce,toInt_int,za,zc,ze,zd,zf,zM,z9,Cst.val,SV.den,zn,zL,zz,zk,zi,zy,zq,vF,vG,vA,vB,vC,List.getElem?_cons_succ,decide_eq_true_eq,vD,vE,vI,vH,vJ,and_true,true_and,if_false,vK,ZE];refine⟨_,_,_,hs,_,hib,_,rfl,hf,_,_,_,hp,g,#[],#[],rfl,?_⟩;refine hsum.mono ?_;rintro _ h' ⟨rfl,sub⟩;refine⟨x,rfl,fun p hp=>?_,rfl,by omega,by omega,⟨_,_,rfl⟩,rfl,rfl⟩;rcases List.mem_cons.1 hp with rfl | hp
  ·exact hn sub hib
  ·cases List.mem_singleton.1 hp
   exact hn sub hs
 ·rintro st' vs ms a' L' h' ⟨e1,⟨n5,c5,e5⟩,e6,e9⟩ H' _ _;cases e1
  have v9:=H'.vl 9 [] _ rfl (by simp);have v10:=H'.vl 10 [] _ rfl (by simp);generalize ([.pointer (some ⟨Φ.Wg,0,none⟩),.pointer (some ⟨fb,0,none⟩),.pointer (some ⟨pb,0,none⟩),.pointer (some ⟨sb,0,none⟩),.pointer (some ⟨ib,0,none⟩)]++vs:List Value)=en at e5 e6 e9 v9 v10;have w9:=Good.at v9;have w10:=Good.at v10;simp only[Ex.ev,List.getD_eq_getElem?_getD,e5,e6,e9,Option.getD_some,coerce,toInt_int,zd,zc,ze]at w9 w10;refine⟨w9.symm,w10.symm.trans ?_⟩;simp[Addr.add];omega
 ·rintro a' L' h' _ ⟨hd,h9,h10⟩;exact .done (za5 hty hCW hi hval (hd.trans (by simp[Act.put,Act.eval,qq])) h9 h10 _)
end
end Go.Proofs.YtopmdepgpabipaaGreatDoor
end
namespace Go.Proofs.YtopmdepgpabipaaGreatDoor
open Go Go.Eng Go.IntWalk
section
def ZF:List (TypeId×TyD):=[(0,⟨.oth,1,0,[],none,some []⟩),(1,⟨.fnk,1,8,[.fnv],some [(1,.nilFn)],none⟩),(2,⟨(.int .i64),1,8,[oL],some [(1,(.int .i64 0))],none⟩),(3,⟨(.int .i64),1,8,[oL],some [(1,(.int .i64 0))],none⟩),(4,⟨.bool,1,1,[.bool],some [(1,(.bool false))],none⟩),(5,⟨(.int .u8),1,1,[oO],some [(1,(.int .u8 0))],none⟩),(22,⟨(.sl 5),1,24,[.slice],some [(1,.nilSl)],none⟩),(70,⟨(.int .u32),1,4,[oN],some [(1,(.int .u32 0))],none⟩),(89,⟨(.sl 2),1,24,[.slice],some [(1,.nilSl)],none⟩),(97,⟨(.int .u64),1,8,[oM],some [(1,(.int .u64 0))],none⟩),(137,⟨(.sl 70),1,24,[.slice],some [(1,.nilSl)],none⟩),(140,⟨.fnk,1,8,[.fnv],some [(1,.nilFn)],none⟩),(176,⟨(.st []),0,0,[],some [],none⟩),(177,⟨(.st []),0,0,[],some [],none⟩),(178,⟨(.st []),0,0,[],some [],none⟩),(180,⟨(.st [(0,177),(0,178),(0,97)]),1,8,[oM],some [(1,(.int .u64 0))],none⟩),(182,⟨(.st [(0,176),(0,180),(1,70)]),2,16,[oM,oN],some [(1,(.int .u64 0)),(1,(.int .u32 0))],none⟩)]
theorem Fp:zJ oPP ZF:=IY (by kernel_rfl)
theorem Fq:oPP.follows .mixedOrders=true:=by kernel_rfl
def cP:Cfg:=⟨ZF,[],[3,7,9,10,11],[.tmp 4,.tmp 5]⟩
noncomputable def Oh:Code:=Tryz.f82.body.getD .skip
noncomputable def ZG:List Code:=match Oh with
 | .seq r0 (.seq r1 (.seq r2 (.seq r3 (.seq (.seq r4 (.block 0 (.loop (.seq r5 (.seq _ (.seq (.block 1 (.seq r6 (.seq r7 (.seq r8 (.seq r9 r10))))) r11)))))) (.seq r12 z)))))=>[r0,r1,r2,r3,r4,r5,r6,r7,r8,r9,r10,r11,r12,z]
 | _=>[]
noncomputable def rP(i:Nat):Code:=ZG.getD i .skip
noncomputable def Oi:Code:=.seq (rP 5) (.seq (.cond (.tmp 24) .skip (.exit 0)) (.seq (.block 1 (nest [rP 6,rP 7,rP 8] (.seq (rP 9) (rP 10)))) (rP 11)))
theorem Wy:Oh=nest [rP 0,rP 1,rP 2,rP 3] (.seq (.seq (rP 4) (.block 0 (.loop Oi))) (.seq (rP 12) (rP 13))):=by kernel_rfl
def Wz:St:={ tmps:=[oX oa8,⟨[],(.x (.var (.fnv) 1))⟩,oJ,oX obn,⟨[],(.x oak)⟩,⟨[],(.x oak)⟩,⟨[],(.x oaa)⟩,oX (oA 5),oX oa2,oX ofc,oJ,oJ,oX oa8,⟨[],(.x oap)⟩,⟨[],(.x oa6)⟩,⟨[],(.x ob7)⟩,⟨[],(.x oaa)⟩,⟨[],(.x oaa)⟩,oX oaw,⟨[],(.x oaa)⟩,oX oa2,⟨[],(.agg [oad,oaj])⟩,oJ,oJ,oJ,oJ,oJ,oJ,oJ,oJ,oJ,oJ,oJ,oJ,oJ,oJ,oJ,oJ,oJ,oJ,oJ,oJ,oJ,oJ,oJ,oJ,oJ],loc:=[],n:=7,known:=[],d:=0 }
def W0:St:={ tmps:=[oX oa8,⟨[],(.x (.var (.fnv) 1))⟩,oJ,oX obn,⟨[],(.x oak)⟩,⟨[],(.x oak)⟩,⟨[],(.x oaa)⟩,oX oea,oX oa1,oX ofc,oJ,oJ,oX oa8,⟨[],(.x oap)⟩,⟨[],(.x oa6)⟩,⟨[],(.x ob7)⟩,⟨[],(.x oaa)⟩,⟨[],(.x oaa)⟩,oX oaw,⟨[],(.x oaa)⟩,oX oa1,⟨[],(.agg [oad,oaj])⟩,oJ,oJ,oJ,oJ,oJ,oJ,oJ,oJ,oJ,oJ,oJ,oJ,oJ,oJ,oJ,oJ,oJ,oJ,oJ,oJ,oJ,oJ,oJ,oJ,oJ],loc:=[],n:=7,known:=[],d:=0 }
def W3:St:={ tmps:=[oX oa8,⟨[],(.x (.var (.fnv) 1))⟩,oJ,oX obn,⟨[],(.x oak)⟩,⟨[],(.x oak)⟩,⟨[],(.x oaa)⟩,oX oea,oX oa1,oX ofc,oJ,oJ,oX oa8,⟨[],(.x oap)⟩,⟨[],(.x oa6)⟩,⟨[],(.x ob7)⟩,⟨[],(.x oaa)⟩,⟨[],(.x oaa)⟩,oX oaw,⟨[],(.x oaa)⟩,oX oa1,⟨[],(.agg [oad,oaj])⟩,oJ,oJ,oJ,oJ,oJ,oJ,oJ,oJ,oJ,oJ,oJ,oJ,oJ,oJ,oJ,oJ,oJ,oJ,oJ,oJ,oJ,oJ,oJ,oJ,oJ],loc:=[],n:=7,known:=[],d:=0 }
def W4:St:={ tmps:=[oX oa8,⟨[],(.x (.var (.fnv) 1))⟩,oJ,oX obn,⟨[],(.x oak)⟩,⟨[],(.x oak)⟩,⟨[],(.x oaa)⟩,oX (oA 5),oX oaw,oX ofc,oJ,oJ,oX oa8,⟨[],(.x oap)⟩,⟨[],(.x oa6)⟩,⟨[],(.x ob7)⟩,⟨[],(.x oaa)⟩,⟨[],(.x oaa)⟩,oX oa2,⟨[],(.x oaa)⟩,oX oaw,⟨[],(.agg [oad,oaj])⟩,oJ,oJ,oJ,oJ,oJ,oJ,oJ,oJ,oJ,oJ,oJ,oJ,oJ,oJ,oJ,oJ,oJ,oJ,oJ,oJ,oJ,oJ,oJ,oJ,oJ],loc:=[],n:=7,known:=[],d:=0 }
def W5:St:={ tmps:=[oX oa8,⟨[],(.x (.var (.fnv) 1))⟩,oJ,oX obn,⟨[],(.x oak)⟩,⟨[],(.x oak)⟩,⟨[],(.x oaa)⟩,oX oea,oX oaw,oX ofc,oJ,oJ,oX oa8,⟨[],(.x oap)⟩,⟨[],(.x oa6)⟩,⟨[],(.x ob7)⟩,⟨[],(.x oaa)⟩,⟨[],(.x oaa)⟩,oX oa1,⟨[],(.x oaa)⟩,oX oaw,⟨[],(.agg [oad,oaj])⟩,oJ,oJ,oJ,oJ,oJ,oJ,oJ,oJ,oJ,oJ,oJ,oJ,oJ,oJ,oJ,oJ,oJ,oJ,oJ,oJ,oJ,oJ,oJ,oJ,oJ],loc:=[],n:=7,known:=[],d:=0 }
def W6:St:={ tmps:=[oX oa8,⟨[],(.x (.var (.fnv) 1))⟩,oJ,oX obn,⟨[],(.x oak)⟩,⟨[],(.x oak)⟩,⟨[],(.x oaa)⟩,oX (oA 3),oX oa1,oX ofc,oJ,oJ,oX oa8,⟨[],(.x oap)⟩,⟨[],(.x oa6)⟩,⟨[],(.x ob7)⟩,⟨[],(.x oaa)⟩,⟨[],(.x oaa)⟩,oX oa2,⟨[],(.x oaa)⟩,oX oa1,⟨[],(.agg [oad,oaj])⟩,oJ,oJ,oJ,oJ,oJ,oJ,oJ,oJ,oJ,oJ,oJ,oJ,oJ,oJ,oJ,oJ,oJ,oJ,oJ,oJ,oJ,oJ,oJ,oJ,oJ],loc:=[],n:=7,known:=[],d:=0 }
def W7:St:={ tmps:=[oX oa8,⟨[],(.x (.var (.fnv) 1))⟩,oJ,oX obn,⟨[],(.x oak)⟩,⟨[],(.x oak)⟩,⟨[],(.x oaa)⟩,oX (oA 3),oX oa1,oX ofc,oJ,oJ,oX oa8,⟨[],(.x oap)⟩,⟨[],(.x oa6)⟩,⟨[],(.x ob7)⟩,⟨[],(.x oaa)⟩,⟨[],(.x oaa)⟩,oX oa2,⟨[],(.x oaa)⟩,oX oa1,⟨[],(.agg [oad,oaj])⟩,oJ,oJ,oJ,oJ,oJ,oJ,oJ,oJ,oJ,oJ,oJ,oJ,oJ,oJ,oJ,oJ,oJ,oJ,oJ,oJ,oJ,oJ,oJ,oJ,oJ],loc:=[],n:=7,known:=[],d:=0 }
def W8:St:={ tmps:=[oX oa8,⟨[],(.x (.var (.fnv) 1))⟩,oJ,oX obn,⟨[],(.x oak)⟩,⟨[],(.x oak)⟩,⟨[],(.x oaa)⟩,oX (oA 3),oX oa2,oX ofc,oJ,oJ,oX oa8,⟨[],(.x oap)⟩,⟨[],(.x oa6)⟩,⟨[],(.x ob7)⟩,⟨[],(.x oaa)⟩,⟨[],(.x oaa)⟩,oX oa1,⟨[],(.x oaa)⟩,oX oa2,⟨[],(.agg [oad,oaj])⟩,oJ,oJ,oJ,oJ,oJ,oJ,oJ,oJ,oJ,oJ,oJ,oJ,oJ,oJ,oJ,oJ,oJ,oJ,oJ,oJ,oJ,oJ,oJ,oJ,oJ],loc:=[],n:=7,known:=[],d:=0 }
def tA:Tr:=
(.hall 140 [(1,(.var (.fnv) 1))] (.both (.mks 70 1 4 [(.int .u32 0)] oaa oaa (.both (.mks 2 1 8 [(.int .i64 0)] oaa oaa (.hall 137 [(1,oak)] (.hsto (oA 5) [oaw] (.hall 182 [(1,oad),(1,oaj)] (.hsto ofc [oad,oaj] (.leaf (.norm Wz))))))) (.hall 137 [(1,oak)] (.both (.mks 2 1 8 [(.int .i64 0)] oaa oaa (.hsto oea [oaw] (.hall 182 [(1,oad),(1,oaj)] (.hsto ofc [oad,oaj] (.leaf (.norm W0)))))) (.hsto oea [oaw] (.mks 2 1 8 [(.int .i64 0)] oaa oaa (.hall 182 [(1,oad),(1,oaj)] (.hsto ofc [oad,oaj] (.leaf (.norm W3)))))))))) (.both (.mks 2 1 8 [(.int .i64 0)] oaa oaa (.both (.mks 70 1 4 [(.int .u32 0)] oaa oaa (.hall 137 [(1,oak)] (.hsto (oA 5) [oa2] (.hall 182 [(1,oad),(1,oaj)] (.hsto ofc [oad,oaj] (.leaf (.norm W4))))))) (.hall 137 [(1,oak)] (.mks 70 1 4 [(.int .u32 0)] oaa oaa (.hsto oea [oa1] (.hall 182 [(1,oad),(1,oaj)] (.hsto ofc [oad,oaj] (.leaf (.norm W5))))))))) (.hall 137 [(1,oak)] (.both (.mks 70 1 4 [(.int .u32 0)] oaa oaa (.both (.mks 2 1 8 [(.int .i64 0)] oaa oaa (.hsto (oA 3) [oa2] (.hall 182 [(1,oad),(1,oaj)] (.hsto ofc [oad,oaj] (.leaf (.norm W6)))))) (.hsto (oA 3) [oa2] (.mks 2 1 8 [(.int .i64 0)] oaa oaa (.hall 182 [(1,oad),(1,oaj)] (.hsto ofc [oad,oaj] (.leaf (.norm W7)))))))) (.mks 2 1 8 [(.int .i64 0)] oaa oaa (.mks 70 1 4 [(.int .u32 0)] oaa oaa (.hsto (oA 3) [oa1] (.hall 182 [(1,oad),(1,oaj)] (.hsto ofc [oad,oaj] (.leaf (.norm W8))))))))))))
theorem sA:sxs cP [rP 0,rP 1,rP 2,rP 3] (EB 47 [(0,.slice),(1,.fnv)])=some tA:=by kernel_rfl
def ZH:St:={ tmps:=[oX oa8,oJ,oJ,oX oe7,oJ,oJ,oX oal,oX obn,oX oaw,oX oea,oJ,oJ,oJ,oJ,oJ,oJ,oJ,oJ,oJ,oJ,oJ,oJ,oX oal,oX oac,oJ,oJ,oJ,oJ,oJ,oJ,oJ,oJ,oJ,oJ,oJ,oJ,oJ,oJ,oJ,oJ,oJ,oJ,oJ,oJ,oJ,oJ,oJ],loc:=[],n:=6,known:=[],d:=0 }
def t4:Tr:=
(.leaf (.norm ZH))
theorem s4:sxs cP [rP 4] (EB 47 [(0,.slice),(3,.addr),(7,.addr),(8,.slice),(9,.addr),(6,.int .i64)])=some t4:=by kernel_rfl
def W9:St:={ tmps:=[oX oa8,oJ,oJ,oX oe7,oJ,oJ,oJ,oX obn,oX oaw,oX oea,oJ,oJ,oJ,oJ,oJ,oJ,oJ,oJ,oJ,oJ,oJ,oJ,oX oal,oX oa0,⟨[],(.x (.cm .lss oa0 oal))⟩,oJ,oJ,oJ,oJ,oJ,oJ,oJ,oJ,oJ,oJ,oJ,oJ,oJ,oJ,oJ,oJ,oJ,oJ,oJ,oJ,oJ,oJ],loc:=[],n:=7,known:=[],d:=0 }
def t5:Tr:=
(.leaf (.norm W9))
theorem s5:sxs cP [rP 5] (EB 47 [(0,.slice),(3,.addr),(7,.addr),(8,.slice),(9,.addr),(22,.int .i64),(23,.int .i64)])=some t5:=by kernel_rfl
def Xj:St:={ tmps:=[oX oa8,oJ,oJ,oX oe7,oJ,oJ,oJ,oX obn,oX oaw,oX oea,oX (oA 7),oX (oA 10),oJ,oJ,oJ,oJ,oJ,oJ,oJ,oJ,oJ,oJ,oX oal,oX oa0,oJ,oX oa0,oX oa8,oX obm,⟨[],(.x odr)⟩,oX oco,⟨[],(.x oel)⟩,⟨[],(.x (.ar .mul .i64 oel oa4))⟩,oX oa8,⟨[],(.x oap)⟩,⟨[],(.x oan)⟩,⟨[],(.x (.sub 1 oa8 odr oan .nl))⟩,oX oaw,oX ocj,oX oer,⟨[],(.x (.ln oer))⟩,⟨[],(.x (.ix 1 oaw ocj))⟩,oJ,oJ,oJ,oJ,oJ,oJ],loc:=[],n:=13,known:=[],d:=0 }
def tBk:Tr:=
(.hall 3 [(1,oac)] (.hsto (oA 7) [oa0] (.load (oA 7) [oL] (.load (oA 7) [oL] (.need (.cm .leq oac oan) (.need (.cm .leq oan (.cp oa8)) (.need (.cm .leq oac odr) (.need (.cm .leq odr oan) (.hall 22 [(1,oak)] (.hsto (oA 10) [(.sub 1 oa8 odr oan .nl)] (.load (oA 7) [oL] (.load (oA 10) [.slice] (.need odm (.need (.cm .leq oac ocj) (.need (.cm .lss ocj ocv) (.hsto (.ix 1 oaw ocj) [(.ln oer)] (.leaf (.norm Xj))))))))))))))))))
theorem sBk:sxs cP [rP 6,rP 7,rP 8] (EB 47 [(0,.slice),(3,.addr),(7,.addr),(8,.slice),(9,.addr),(22,.int .i64),(23,.int .i64)])=some tBk:=by kernel_rfl
def S6:St:={ tmps:=[oX oa8,oJ,oJ,oX oe7,oJ,oJ,oJ,oX obn,oX oaw,oX oea,oJ,oJ,oJ,oJ,oJ,oJ,oJ,oJ,oJ,oJ,oJ,oJ,oX oal,⟨[],(.x obe)⟩,oJ,oJ,oJ,oJ,oJ,oJ,oJ,oJ,oJ,oJ,oJ,oJ,oJ,oJ,oJ,oJ,oJ,oJ,oJ,⟨[],(.x obe)⟩,oJ,oJ,oJ],loc:=[],n:=7,known:=[],d:=0 }
def t11:Tr:=
(.leaf (.norm S6))
theorem s11:sxs cP [rP 11] (EB 47 [(0,.slice),(3,.addr),(7,.addr),(8,.slice),(9,.addr),(22,.int .i64),(23,.int .i64)])=some t11:=by kernel_rfl
def tZ:Tr:=
(.load (oA 0) [.slice] (.ret (.tup [(false,[obw]),(false,[obk])])))
theorem sZ:sxC cP (rP 13) (EB 47 [(7,.addr),(8,.slice)])=some tZ:=by kernel_rfl
end
end Go.Proofs.YtopmdepgpabipaaGreatDoor
section
namespace Go.Proofs.YtopmdepgpabipaaGreatDoor
open Go Go.Eng Go.Conc Go.RowKit Go.Conc.Lib Go.ConcR.Gen
open Go.ConcR (KK wgBlock WgAt stA smA rd wr DC0 Payload)
variable {b c j l n x:Nat}{o:Obj}{u v:Value}{T:TypeId}{a:Option Addr}
section
variable {S:Shared}{h:qaA}
theorem yT{h:qaA}:upd h b o x=none<->x≠b/\h x=none:=by
 unfold upd;by_cases e:x=b <;> simp[e]
theorem yS{h:qaA}:upd h b o b=some o:=by simp[upd]
theorem yI{h:qaA}(e:x≠b):upd h b o x=h x:=by simp[upd,e]
theorem EC{K:qaA->Prop}(hb:h b=some (.cells #[u] T))(hS:¬S b)(k:K (upd h b (.cells #[v] T))):yk S ⟨b,0,none⟩ 0 [v] h K:=by
 have e:zQ h (Addr.add ⟨b,0,none⟩ 0) v=upd h b (.cells #[v] T):=by
  funext x;by_cases hx:x=b
  ·subst hx;simp[zQ,upd,Addr.add,hb]
  ·simp[zQ,upd,Addr.add,hx]
 refine⟨⟨⟨u,by simp[zj,Addr.add,hb]⟩,by simp[yN,Addr.add,hb],by simpa[Addr.add]using hS⟩,?_⟩;rw[e];exact k
theorem HD{u u2 v v2:Value}{K:qaA->Prop}(hb:h b=some (.cells #[u,u2] T))(hS:¬S b)(k:K (upd h b (.cells #[v,v2] T))):yk S ⟨b,0,none⟩ 0 [v,v2] h K:=by
 have e:zQ (zQ h (Addr.add ⟨b,0,none⟩ 0) v) (Addr.add ⟨b,0,none⟩ 1) v2=upd h b (.cells #[v,v2] T):=by
  funext x;by_cases hx:x=b
  ·subst hx;simp[zQ,upd,Addr.add,hb]
  ·simp[zQ,upd,Addr.add,hx]
 refine⟨⟨⟨u,by simp[zj,Addr.add,hb]⟩,by simp[yN,Addr.add,hb],by simpa[Addr.add]using hS⟩,⟨⟨u2,by simp[zQ,zj,Addr.add,hb]⟩,by simp[zQ,yN,Addr.add,hb],by simpa[Addr.add]using hS⟩,?_⟩;rw[e];exact k
theorem zaZ{cs:Array Value}{K:qaA->Prop}(hb:h b=some (.cells cs T))(hj:j<cs.size)(hS:¬S b)(k:K (upd h b (.cells (cs.setIfInBounds j v) T))) :
  yk S (((some (⟨b,0,none⟩:Addr)).getD default).add (((j:Int).toNat)*1)) 0 [v] h K:=by
 have ea:(((some (⟨b,0,none⟩:Addr)).getD default).add (((j:Int).toNat)*1)).add 0=⟨b,j,none⟩:=by
  have e0:∀(x:Addr),x.add 0=x:=fun x=>by simp[Addr.add]
  rw[e0,Int.toNat_natCast,Nat.mul_one,Option.getD_some,zu,Nat.zero_add]
 refine⟨⟨⟨cs[j],by rw[ea];simp[zj,hb,hj]⟩,by rw[ea];simp[yN,hb],by rw[ea];exact hS⟩,?_⟩;have e:zQ h ((((some (⟨b,0,none⟩:Addr)).getD default).add (((j:Int).toNat)*1)).add 0) v=upd h b (.cells (cs.setIfInBounds j v) T):=by
  rw[ea];funext x;by_cases hx:x=b
  ·subst hx;simp[zQ,upd,hb]
  ·simp[zQ,upd,hx]
 rw[e];exact k
theorem jV.intro{is:List Nat}{R:(Nat->Value)->qaA->Prop}{env:List Value}{Ks:List Kt}(st:St)(h1:st.loc=[])(h2:st.dv=false)(h3:st.tmps.length=n)(h4:is.all (isX st)=true)(h5:R (got st env) h) :
  jV n is R (.norm st) env h Ks:=⟨st,rfl,h1,h2,h3,h4,h5⟩
def RA(h:qaA)(da:Value)(fv:Value)(n:Nat)(f:Nat->Value)(h':qaA):Prop:=
 ∃fb bC bS sb wg:Nat,f 0=da/\f 3=.pointer (some ⟨fb,0,none⟩)/\f 6=.int .i64 n/\f 7=.pointer (some ⟨sb,0,none⟩)/\f 8=.slice (some ⟨bS,0,none⟩) n n/\f 9=.pointer (some ⟨wg,0,none⟩) /\
  [fb,bC,bS,sb,wg].Nodup/\(∀b ∈ [fb,bC,bS,sb,wg],h b=none)/\qaB h h' /\
  h' fb=some (.cells #[fv] 140)/\h' bC=some (.cells (yl n #[.int .u32 0]) 70)/\h' bS=some (.cells (yl n #[.int .i64 0]) 2) /\
  h' sb=some (.cells #[.slice (some ⟨bC,0,none⟩) n n] 137)/\h' wg=some (wgBlock 182 0 0)
theorem wpA{fv:Value}(hfv:Aj fv=fv)(hi:Inv S h)(hl:l<2^40)(hn:n=(l+32767)/32768) :
  tA.wp oPP S (jV 47 [0,3,6,7,8,9] (RA h (.slice a l c) fv n)) (fun _ _=>True) [.slice a l c,fv] h []:=by
 have ns:∀b,h b=none->¬S b:=fun b hb hS=>hi b hS hb
 have e1:IntKind.i64.wrap ((IntKind.i64.wrap (IntKind.i64.wrap ((l:Int)+32768)-1)).tdiv 32768)=(n:Int):=by
  have w1:IntKind.i64.wrap ((l:Int)+32768)=(l:Int)+32768:=by rw[IntKind.wrap_i64];omega
  have w2:IntKind.i64.wrap ((l:Int)+32768-1)=(l:Int)+32767:=by rw[IntKind.wrap_i64];omega
  rw[w1,w2,Int.tdiv_eq_ediv_of_nonneg (by omega),IntKind.wrap_i64];omega
 have e2:IntKind.i64.wrap (n:Int)=(n:Int):=by rw[IntKind.wrap_i64];omega
 have hb4:((4:Nat):Int)*(n:Int)<=2^48:=by omega
 have hb8:((8:Nat):Int)*(n:Int)<=2^48:=by omega
 simp only[tA,Tr.wp,Fx,Ex.ev,coerce,toInt_int,zc,ze,zd,zf,arith,Cst.val,yF,vF,vG,List.replicate_one,vA,vB,vD,vE,vI,vH,vJ,e1,e2,Int.toNat_natCast,Nat.mul_one,hfv];have nn:(0:Int)<=(n:Int):=by omega
 have sub5:∀ {h':qaA},(∀x,(∀b,h b=none->x≠b)->h' x=h x)->qaB h h':=by
  intro h' hx x o ho;rw[hx x (fun b hb e=>by subst e;rw[hb]at ho;cases ho)];exact ho
 intro fb g0;refine⟨⟨nn,Int.le_refl _,hb4,fun b1 g1=>⟨⟨nn,Int.le_refl _,hb8,fun b2 g2 b3 g3=>?_⟩,fun b2 g2=>⟨⟨nn,Int.le_refl _,hb8,fun b3 g3=>?_⟩,?_⟩⟩⟩,
  ⟨⟨nn,Int.le_refl _,hb8,fun b1 g1=>⟨⟨nn,Int.le_refl _,hb4,fun b2 g2 b3 g3=>?_⟩,fun b2 g2=>⟨nn,Int.le_refl _,hb4,fun b3 g3=>?_⟩⟩⟩,
   fun b1 g1=>⟨⟨nn,Int.le_refl _,hb4,fun b2 g2=>⟨⟨nn,Int.le_refl _,hb8,fun b3 g3=>?_⟩,?_⟩⟩,⟨nn,Int.le_refl _,hb8,fun b2 g2=>⟨nn,Int.le_refl _,hb4,fun b3 g3=>?_⟩⟩⟩⟩⟩
 have so:∀ {T:TypeId} {b b':Nat} {h:qaA} {o:Obj} {v:Value},b'≠b->(upd h b (.cells #[v] T)) b'=h b':=fun e=>yI e
 ·simp only[yT]at g1 g2 g3;refine EC (b:=b3) yS (ns _ (by first | exact g1.2 | exact g2.2.2 | exact g3.2.2.2)) ?_;intro b4 g4;simp only[yT]at g4;refine HD yS (ns _ (by simp only[g4])) ?_;refine jV.intro Wz rfl rfl rfl rfl ⟨fb,b1,b2,b3,b4,rfl,rfl,?_,rfl,rfl,rfl,?_,?_,?_,?_,?_,?_,?_,?_⟩
  all_goals first
   | (simp only[got,Wz,Ex.ev,coerce,toInt_int,zc,ze,zd,arith,Cst.val,vA,vC,List.getElem?_cons_succ];rw[e1];done)
   | (simp only[List.nodup_cons,List.mem_cons,List.not_mem_nil,or_false,not_or,not_false_eq_true,List.nodup_nil,and_true];omega)
   | (intro b hb;simp only[List.mem_cons,List.not_mem_nil,or_false]at hb;rcases hb with rfl | rfl | rfl | rfl | rfl <;> first | exact g0 | exact g1.2 | exact g2.2.2 | exact g3.2.2.2 | exact g4.2.2.2.2.2 | exact g2.2.2.2 | exact g3.2.2.2.2)
   | (refine sub5 fun x hx=>?_;simp only[upd];repeat rw[if_neg (hx _ (by first | exact g0 | exact g1.2 | exact g2.2.2 | exact g3.2.2.2 | exact g4.2.2.2.2.2 | exact g3.2.2.2.2))])
   | (simp only[upd,wgBlock];repeat first | rw[if_pos trivial] | rw[if_pos rfl] | rw[if_neg (by omega)])
 ·simp only[yT]at g1 g2 g3;refine EC (b:=b2) ((yI (by omega)).trans yS) (ns _ (by first | exact g1.2 | exact g2.2.2 | exact g3.2.2.2)) ?_;intro b4 g4;simp only[yT]at g4;refine HD yS (ns _ (by simp only[g4])) ?_;refine jV.intro W0 rfl rfl rfl rfl ⟨fb,b1,b3,b2,b4,rfl,rfl,?_,rfl,rfl,rfl,?_,?_,?_,?_,?_,?_,?_,?_⟩
  all_goals first
   | (simp only[got,W0,Ex.ev,coerce,toInt_int,zc,ze,zd,arith,Cst.val,vA,vC,List.getElem?_cons_succ];rw[e1];done)
   | (simp only[List.nodup_cons,List.mem_cons,List.not_mem_nil,or_false,not_or,not_false_eq_true,List.nodup_nil,and_true];omega)
   | (intro b hb;simp only[List.mem_cons,List.not_mem_nil,or_false]at hb;rcases hb with rfl | rfl | rfl | rfl | rfl <;> first | exact g0 | exact g1.2 | exact g2.2.2 | exact g3.2.2.2 | exact g4.2.2.2.2.2 | exact g2.2.2.2 | exact g3.2.2.2.2)
   | (refine sub5 fun x hx=>?_;simp only[upd];repeat rw[if_neg (hx _ (by first | exact g0 | exact g1.2 | exact g2.2.2 | exact g3.2.2.2 | exact g4.2.2.2.2.2 | exact g3.2.2.2.2))])
   | (simp only[upd,wgBlock];repeat first | rw[if_pos trivial] | rw[if_pos rfl] | rw[if_neg (by omega)])
 ·simp only[yT]at g1 g2;refine EC (b:=b2) yS (ns _ (by first | exact g1.2 | exact g2.2.2)) ⟨nn,Int.le_refl _,hb8,fun b3 g3=>?_⟩;simp only[yT]at g3;intro b4 g4;simp only[yT]at g4;refine HD yS (ns _ (by simp only[g4])) ?_;refine jV.intro W3 rfl rfl rfl rfl ⟨fb,b1,b3,b2,b4,rfl,rfl,?_,rfl,rfl,rfl,?_,?_,?_,?_,?_,?_,?_,?_⟩
  all_goals first
   | (simp only[got,W3,Ex.ev,coerce,toInt_int,zc,ze,zd,arith,Cst.val,vA,vC,List.getElem?_cons_succ];rw[e1];done)
   | (simp only[List.nodup_cons,List.mem_cons,List.not_mem_nil,or_false,not_or,not_false_eq_true,List.nodup_nil,and_true];omega)
   | (intro b hb;simp only[List.mem_cons,List.not_mem_nil,or_false]at hb;rcases hb with rfl | rfl | rfl | rfl | rfl <;> first | exact g0 | exact g1.2 | exact g2.2.2 | exact g3.2.2.2 | exact g4.2.2.2.2.2 | exact g2.2.2.2 | exact g3.2.2.2.2)
   | (refine sub5 fun x hx=>?_;simp only[upd];repeat rw[if_neg (hx _ (by first | exact g0 | exact g1.2 | exact g2.2.2 | exact g3.2.2.2 | exact g4.2.2.2.2.2 | exact g3.2.2.2.2))])
   | (simp only[upd,wgBlock];repeat first | rw[if_pos trivial] | rw[if_pos rfl] | rw[if_neg (by omega)])
 ·simp only[yT]at g1 g2 g3;refine EC (b:=b3) yS (ns _ (by first | exact g1.2 | exact g2.2.2 | exact g3.2.2.2)) ?_;intro b4 g4;simp only[yT]at g4;refine HD yS (ns _ (by simp only[g4])) ?_;refine jV.intro W4 rfl rfl rfl rfl ⟨fb,b2,b1,b3,b4,rfl,rfl,?_,rfl,rfl,rfl,?_,?_,?_,?_,?_,?_,?_,?_⟩
  all_goals first
   | (simp only[got,W4,Ex.ev,coerce,toInt_int,zc,ze,zd,arith,Cst.val,vA,vC,List.getElem?_cons_succ];rw[e1];done)
   | (simp only[List.nodup_cons,List.mem_cons,List.not_mem_nil,or_false,not_or,not_false_eq_true,List.nodup_nil,and_true];omega)
   | (intro b hb;simp only[List.mem_cons,List.not_mem_nil,or_false]at hb;rcases hb with rfl | rfl | rfl | rfl | rfl <;> first | exact g0 | exact g1.2 | exact g2.2.2 | exact g3.2.2.2 | exact g4.2.2.2.2.2 | exact g2.2.2.2 | exact g3.2.2.2.2)
   | (refine sub5 fun x hx=>?_;simp only[upd];repeat rw[if_neg (hx _ (by first | exact g0 | exact g1.2 | exact g2.2.2 | exact g3.2.2.2 | exact g4.2.2.2.2.2 | exact g3.2.2.2.2))])
   | (simp only[upd,wgBlock];repeat first | rw[if_pos trivial] | rw[if_pos rfl] | rw[if_neg (by omega)])
 ·simp only[yT]at g1 g2 g3;refine EC (b:=b2) ((yI (by omega)).trans yS) (ns _ (by first | exact g1.2 | exact g2.2.2 | exact g3.2.2.2)) ?_;intro b4 g4;simp only[yT]at g4;refine HD yS (ns _ (by simp only[g4])) ?_;refine jV.intro W5 rfl rfl rfl rfl ⟨fb,b3,b1,b2,b4,rfl,rfl,?_,rfl,rfl,rfl,?_,?_,?_,?_,?_,?_,?_,?_⟩
  all_goals first
   | (simp only[got,W5,Ex.ev,coerce,toInt_int,zc,ze,zd,arith,Cst.val,vA,vC,List.getElem?_cons_succ];rw[e1];done)
   | (simp only[List.nodup_cons,List.mem_cons,List.not_mem_nil,or_false,not_or,not_false_eq_true,List.nodup_nil,and_true];omega)
   | (intro b hb;simp only[List.mem_cons,List.not_mem_nil,or_false]at hb;rcases hb with rfl | rfl | rfl | rfl | rfl <;> first | exact g0 | exact g1.2 | exact g2.2.2 | exact g3.2.2.2 | exact g4.2.2.2.2.2 | exact g2.2.2.2 | exact g3.2.2.2.2)
   | (refine sub5 fun x hx=>?_;simp only[upd];repeat rw[if_neg (hx _ (by first | exact g0 | exact g1.2 | exact g2.2.2 | exact g3.2.2.2 | exact g4.2.2.2.2.2 | exact g3.2.2.2.2))])
   | (simp only[upd,wgBlock];repeat first | rw[if_pos trivial] | rw[if_pos rfl] | rw[if_neg (by omega)])
 ·simp only[yT]at g1 g2 g3;refine EC (b:=b1) ((yI (by omega)).trans ((yI (by omega)).trans yS)) (ns _ (by first | exact g1.2 | exact g2.2.2 | exact g3.2.2.2)) ?_;intro b4 g4;simp only[yT]at g4;refine HD yS (ns _ (by simp only[g4])) ?_;refine jV.intro W6 rfl rfl rfl rfl ⟨fb,b2,b3,b1,b4,rfl,rfl,?_,rfl,rfl,rfl,?_,?_,?_,?_,?_,?_,?_,?_⟩
  all_goals first
   | (simp only[got,W6,Ex.ev,coerce,toInt_int,zc,ze,zd,arith,Cst.val,vA,vC,List.getElem?_cons_succ];rw[e1];done)
   | (simp only[List.nodup_cons,List.mem_cons,List.not_mem_nil,or_false,not_or,not_false_eq_true,List.nodup_nil,and_true];omega)
   | (intro b hb;simp only[List.mem_cons,List.not_mem_nil,or_false]at hb;rcases hb with rfl | rfl | rfl | rfl | rfl <;> first | exact g0 | exact g1.2 | exact g2.2.2 | exact g3.2.2.2 | exact g4.2.2.2.2.2 | exact g2.2.2.2 | exact g3.2.2.2.2)
   | (refine sub5 fun x hx=>?_;simp only[upd];repeat rw[if_neg (hx _ (by first | exact g0 | exact g1.2 | exact g2.2.2 | exact g3.2.2.2 | exact g4.2.2.2.2.2 | exact g3.2.2.2.2))])
   | (simp only[upd,wgBlock];repeat first | rw[if_pos trivial] | rw[if_pos rfl] | rw[if_neg (by omega)])
 ·simp only[yT]at g1 g2;refine EC (b:=b1) ((yI (by omega)).trans yS) (ns _ (by first | exact g1.2 | exact g2.2.2)) ⟨nn,Int.le_refl _,hb8,fun b3 g3=>?_⟩;simp only[yT]at g3;intro b4 g4;simp only[yT]at g4;refine HD yS (ns _ (by simp only[g4])) ?_;refine jV.intro W7 rfl rfl rfl rfl ⟨fb,b2,b3,b1,b4,rfl,rfl,?_,rfl,rfl,rfl,?_,?_,?_,?_,?_,?_,?_,?_⟩
  all_goals first
   | (simp only[got,W7,Ex.ev,coerce,toInt_int,zc,ze,zd,arith,Cst.val,vA,vC,List.getElem?_cons_succ];rw[e1];done)
   | (simp only[List.nodup_cons,List.mem_cons,List.not_mem_nil,or_false,not_or,not_false_eq_true,List.nodup_nil,and_true];omega)
   | (intro b hb;simp only[List.mem_cons,List.not_mem_nil,or_false]at hb;rcases hb with rfl | rfl | rfl | rfl | rfl <;> first | exact g0 | exact g1.2 | exact g2.2.2 | exact g3.2.2.2 | exact g4.2.2.2.2.2 | exact g2.2.2.2 | exact g3.2.2.2.2)
   | (refine sub5 fun x hx=>?_;simp only[upd];repeat rw[if_neg (hx _ (by first | exact g0 | exact g1.2 | exact g2.2.2 | exact g3.2.2.2 | exact g4.2.2.2.2.2 | exact g3.2.2.2.2))])
   | (simp only[upd,wgBlock];repeat first | rw[if_pos trivial] | rw[if_pos rfl] | rw[if_neg (by omega)])
 ·simp only[yT]at g1 g2 g3;refine EC (b:=b1) ((yI (by omega)).trans ((yI (by omega)).trans yS)) (ns _ (by first | exact g1.2 | exact g2.2.2 | exact g3.2.2.2)) ?_;intro b4 g4;simp only[yT]at g4;refine HD yS (ns _ (by simp only[g4])) ?_;refine jV.intro W8 rfl rfl rfl rfl ⟨fb,b3,b2,b1,b4,rfl,rfl,?_,rfl,rfl,rfl,?_,?_,?_,?_,?_,?_,?_,?_⟩
  all_goals first
   | (simp only[got,W8,Ex.ev,coerce,toInt_int,zc,ze,zd,arith,Cst.val,vA,vC,List.getElem?_cons_succ];rw[e1];done)
   | (simp only[List.nodup_cons,List.mem_cons,List.not_mem_nil,or_false,not_or,not_false_eq_true,List.nodup_nil,and_true];omega)
   | (intro b hb;simp only[List.mem_cons,List.not_mem_nil,or_false]at hb;rcases hb with rfl | rfl | rfl | rfl | rfl <;> first | exact g0 | exact g1.2 | exact g2.2.2 | exact g3.2.2.2 | exact g4.2.2.2.2.2 | exact g2.2.2.2 | exact g3.2.2.2.2)
   | (refine sub5 fun x hx=>?_;simp only[upd];repeat rw[if_neg (hx _ (by first | exact g0 | exact g1.2 | exact g2.2.2 | exact g3.2.2.2 | exact g4.2.2.2.2.2 | exact g3.2.2.2.2))])
   | (simp only[upd,wgBlock];repeat first | rw[if_pos trivial] | rw[if_pos rfl] | rw[if_neg (by omega)])
def qD(l i:Nat):Nat:=min ((i+1)*32768) l-i*32768
def partOf(xs:List Int)(i:Nat):List Int:=(xs.drop (i*32768)).take (qD xs.length i)
theorem Ah(xs:List Int)(i:Nat):(partOf xs i).length=qD xs.length i:=by
 unfold partOf qD;rw[List.length_take,List.length_drop];omega
def szv(n l j:Nat):Array Value:=((List.range n).map fun i=>if i<j then Value.int .i64 (qD l i)else .int .i64 0).toArray
theorem WA(n l j:Nat):(szv n l j).size=n:=by simp[szv]
theorem WB(n l:Nat):yl n #[.int .i64 0]=szv n l 0:=by
 apply Array.ext
 ·simp[yl,szv]
 ·intro i h1 h2;simp[yl,szv,Nat.mod_one]
theorem Yw(hj:j<n):(szv n l j).setIfInBounds j (.int .i64 (qD l j))=szv n l (j+1):=by
 apply Array.ext
 ·simp[szv]
 ·intro i h1 h2;simp only[szv];by_cases e:j=i
  ·subst e;simp
  ·have e2:(i<j+1)=(i<j):=by apply propext;omega
   simp[e,e2]
def RB(h0 h:qaA)(xs:List Int)(da:Value)(fb sb bS wg n j:Nat)(f:Nat->Value)(h':qaA):Prop:=
 ∃(ib pb:Nat) (a':Option Addr) (c':Nat),f 0=da/\f 3=.pointer (some ⟨fb,0,none⟩)/\f 7=.pointer (some ⟨sb,0,none⟩)/\f 8=.slice (some ⟨bS,0,none⟩) n n/\f 9=.pointer (some ⟨wg,0,none⟩) /\
  f 10=.pointer (some ⟨ib,0,none⟩)/\f 11=.pointer (some ⟨pb,0,none⟩)/\f 22=.int .i64 n/\f 23=.int .i64 j /\
  h ib=none/\h pb=none/\ib≠pb/\zo h0 .u8 a' (partOf xs j)/\h' ib=some (.cells #[.int .i64 j] 3)/\h' pb=some (.cells #[.slice a' (partOf xs j).length c'] 22) /\
  h' bS=some (.cells (szv n xs.length (j+1)) 2)/\∀x,x≠ib->x≠pb->x≠bS->h' x=h x
theorem wpB{h0:qaA}{xs:List Int}(hx:zo h0 .u8 a xs)(hc:xs.length<=c)(hl:xs.length<2^40)(hi:Inv S h)(hn:n=(xs.length+32767)/32768)(hj:j<n)
  {fb sb bS wg:Nat}(hS:¬S bS)(hbS:h bS=some (.cells (szv n xs.length j) 2)) :
  tBk.wp oPP S (jV 47 [0,3,7,8,9,10,11,22,23] (RB h0 h xs (.slice a xs.length c) fb sb bS wg n j)) (fun _ _=>True)
   [.slice a xs.length c,.pointer (some ⟨fb,0,none⟩),.pointer (some ⟨sb,0,none⟩),.slice (some ⟨bS,0,none⟩) n n,.pointer (some ⟨wg,0,none⟩),.int .i64 n,.int .i64 j] h []:=by
 have ns:∀b,h b=none->¬S b:=fun b hb hS=>hi b hS hb
 have w1:IntKind.i64.wrap ((j:Int)*32768)=((j*32768:Nat):Int):=by rw[IntKind.wrap_i64];omega
 have w2:IntKind.i64.wrap ((j:Int)+1)=(j:Int)+1:=by rw[IntKind.wrap_i64];omega
 have w3:IntKind.i64.wrap (((j:Int)+1)*32768)=(((j+1)*32768:Nat):Int):=by rw[IntKind.wrap_i64];omega
 simp only[tBk,Tr.wp,Ex.ev,coerce,toInt_int,za,zc,ze,zd,zf,zM,xL,xW,jI,z9,arith,Cst.val,yF,zy,zq,vF,vG,List.replicate_one,vA,vB,decide_eq_true_eq,vD,vE,vI,vH,vJ,and_true];intro ib g0;refine EC yS (ns _ g0) ?_;have eM:(if(xs.length:Int)<(((j+1)*32768:Nat):Int)then(xs.length:Int)else(((j+1)*32768:Nat):Int))=((min ((j+1)*32768) xs.length:Nat):Int):=by split <;> omega
 have cell1:∀ {h:qaA} {b:Nat} {v:Value} {T:TypeId},h b=some (.cells #[v] T)->zj h (Addr.add ⟨b,0,none⟩ 0)=some v:=fun hb=>by simp[zj,Addr.add,hb]
 refine⟨j,cell1 yS,j,cell1 yS,?_⟩;simp only[w1,w2,w3,eM,Int.toNat_natCast];obtain⟨a',es,hp⟩:=wG hx (lo:=j*32768) (hi:=min ((j+1)*32768) xs.length) (m:=c) (by omega) (by omega) (by omega);rw[es];have ep:(xs.drop (j*32768)).take (min ((j+1)*32768) xs.length-j*32768)=partOf xs j:=rfl;rw[ep]at hp ⊢;refine⟨by omega,by omega,by omega,by omega,fun pb g1=>?_⟩;simp only[yT]at g1;have hbi:bS≠ib:=fun e=>by subst e;rw[g0]at hbS;cases hbS
 have hbp:bS≠pb:=fun e=>by subst e;rw[g1.2.2]at hbS;cases hbS
 refine EC yS (ns _ g1.2.2) ?_;refine⟨j,cell1 ((yI (Ne.symm g1.1)).trans ((yI (Ne.symm g1.1)).trans yS)),a',_,_,cell1 yS,rfl,by omega,by omega,?_⟩;refine zaZ (cs:=szv n xs.length j) (T:=2) ?_ (by rw[WA];exact hj) hS ?_
 ·rw[yI hbp,yI hbp,yI hbi,yI hbi];exact hbS
 refine jV.intro Xj rfl rfl rfl rfl ⟨ib,pb,a',c-j*32768,rfl,rfl,rfl,rfl,rfl,rfl,rfl,rfl,rfl,g0,g1.2.2,Ne.symm g1.1,hp,?_,?_,?_,?_⟩
 ·rw[yI (Ne.symm hbi),yI (Ne.symm g1.1),yI (Ne.symm g1.1),yS]
 ·rw[yI (Ne.symm hbp),yS]
 ·rw[yS,Ah,Yw hj]
 ·intro x h1 h2 h3;rw[yI h3,yI h2,yI h2,yI h1,yI h1]
end
end Go.Proofs.YtopmdepgpabipaaGreatDoor
end
section
namespace Go.Proofs.YtopmdepgpabipaaGreatDoor
open Go Go.Eng Go.Conc Go.RowKit Go.Conc.Lib Go.ConcR.Gen
open Go.ConcR (KK wgBlock WgAt stA smA rd wr DC0 Payload)
def S7:List (Nat×Sh):=[(0,.slice),(3,.addr),(7,.addr),(8,.slice),(9,.addr),(22,.int .i64),(23,.int .i64)]
def WC(da:Value)(fb sb bS wg n j:Nat):List Value:=[da,.pointer (some ⟨fb,0,none⟩),.pointer (some ⟨sb,0,none⟩),.slice (some ⟨bS,0,none⟩) n n,.pointer (some ⟨wg,0,none⟩),.int .i64 n,.int .i64 j]
structure AtL(a:Act)(da:Value)(fb sb bS wg n j:Nat):Prop where
 sz:a.tmps.size=47
 df:a.defers=[]
 s0:a.tmps.getD 0 undef=da
 s3:a.tmps.getD 3 undef=.pointer (some ⟨fb,0,none⟩)
 s7:a.tmps.getD 7 undef=.pointer (some ⟨sb,0,none⟩)
 s8:a.tmps.getD 8 undef=.slice (some ⟨bS,0,none⟩) n n
 s9:a.tmps.getD 9 undef=.pointer (some ⟨wg,0,none⟩)
 s22:a.tmps.getD 22 undef=.int .i64 n
 s23:a.tmps.getD 23 undef=.int .i64 j
variable {a:Act}
theorem AtL.Ip{x:Option Addr}{l c fb sb bS wg n j:Nat}(A:AtL a (.slice x l c) fb sb bS wg n j):wB a S7 (WC (.slice x l c) fb sb bS wg n j):=
 ⟨A.s0,rfl,A.s3,rfl,A.s7,rfl,A.s8,rfl,A.s9,rfl,A.s22,rfl,A.s23,rfl,trivial⟩
theorem Jw(a:Act)(d i:Nat)(v:Value)(hd:d<a.tmps.size):(a.put (some d) v).tmps.getD i undef=if i=d then v else a.tmps.getD i undef:=by
 by_cases e:i=d
 ·subst e;simp[Act.put,Array.getD_eq_getD_getElem?,hd]
 ·simp only[Act.put,Array.getD_eq_getD_getElem?,Array.getElem?_setIfInBounds_ne (Ne.symm e),if_neg e]
theorem WE(a:Act)(d:Nat)(v:Value):(a.put (some d) v).tmps.size=a.tmps.size:=by simp[Act.put]
theorem AtL.put{a:Act}{da:Value}{fb sb bS wg n j:Nat}(A:AtL a da fb sb bS wg n j)(d:Nat)(v:Value)(hd:d=41\/d=42\/d=44):AtL (a.put (some d) v) da fb sb bS wg n j:=by
 have hs:d<a.tmps.size:=by rw[A.sz];omega
 have g:∀i,i≠d->(a.put (some d) v).tmps.getD i undef=a.tmps.getD i undef:=fun i hi=>by rw[Jw a d i v hs,if_neg hi]
 exact⟨by rw[WE];exact A.sz,A.df,(g 0 (by omega)).trans A.s0,(g 3 (by omega)).trans A.s3,(g 7 (by omega)).trans A.s7,(g 8 (by omega)).trans A.s8,(g 9 (by omega)).trans A.s9,(g 22 (by omega)).trans A.s22,(g 23 (by omega)).trans A.s23⟩
def RS(h:qaA)(da:Value)(fb sb bS wg n j:Nat)(f:Nat->Value)(h':qaA):Prop:=
 f 0=da/\f 3=.pointer (some ⟨fb,0,none⟩)/\f 7=.pointer (some ⟨sb,0,none⟩)/\f 8=.slice (some ⟨bS,0,none⟩) n n/\f 9=.pointer (some ⟨wg,0,none⟩)/\f 22=.int .i64 n/\f 23=.int .i64 j/\h'=h
noncomputable def xO(i:Nat):Array Oper:=match rP i with | .region _ ops _=>ops | _=>#[]
theorem rP9:rP 9=.region 9 (xO 9) false:=by kernel_rfl
theorem zba:rP 10=.region 10 (xO 10) false:=by kernel_rfl
theorem zbb:rP 12=.region 12 (xO 12) false:=by kernel_rfl
theorem za8:(xO 9).size=1:=by kernel_rfl
theorem ZI:(xO 10).size=2:=by kernel_rfl
theorem ZJ:(xO 12).size=1:=by kernel_rfl
variable {ops:Array Oper}{i:Nat}
theorem Oj{d:Option Tmp}{p:Op->Bool}(h1:(ops[i]?.map fun o=>(o.dst,o.guard))=some (d,none)){q:Op}(h2:(ops[i]?.map fun o=>o.op)=some q) :
  ∃o,ops[i]? = some o/\o.dst=d/\o.guard=none/\o.op=q:=by
 cases h:ops[i]? with
 | none=>rw[h]at h1;cases h1
 | some o=>
  rw[h]at h1 h2;simp only[Option.map_some,Option.some.injEq,Prod.mk.injEq]at h1 h2;exact⟨o,rfl,h1.1,h1.2,h2⟩
def S8(o:Option Oper):Array TypeId:=match o with | some o=>(match o.op with | .call c=>c.argTypes | .go c=>c.argTypes | _=>#[]) | none=>#[]
theorem c9a:((xO 9)[0]?.map fun o=>(o.dst,o.guard))=some (some 41,none):=by kernel_rfl
theorem c9b:((xO 9)[0]?.map fun o=>o.op)=some (.call { callee:=.value (.func 102),args:=#[.tmp 9,.const (.int .i64 1)],argTypes:=S8 (xO 9)[0]? }):=by kernel_rfl
theorem zbc:((xO 12)[0]?.map fun o=>(o.dst,o.guard))=some (some 44,none):=by kernel_rfl
theorem zbd:((xO 12)[0]?.map fun o=>o.op)=some (.call { callee:=.value (.func 105),args:=#[.tmp 9],argTypes:=S8 (xO 12)[0]? }):=by kernel_rfl
theorem zbe:((xO 10)[0]?.map fun o=>(o.dst,o.guard))=some (some 42,none):=by kernel_rfl
theorem zbf:((xO 10)[0]?.map fun o=>o.op)=some (.makeFunc (.func 103) #[] #[.tmp 9,.tmp 3,.tmp 11,.tmp 7,.tmp 10]):=by kernel_rfl
theorem zbg:((xO 10)[1]?.map fun o=>(o.dst,o.guard))=some (none,none):=by kernel_rfl
theorem zbh:((xO 10)[1]?.map fun o=>o.op)=some (.go { callee:=.value (.tmp 42),args:=#[],argTypes:=S8 (xO 10)[1]? }):=by kernel_rfl
variable {b:Frame}{cs:List Frame}
theorem Lc{P:Program}{k:List Item}{rest:List Nat}{o:Oper}{f:FuncId}{fn:Func}{c:Code}{args:Array Operand}{ats:Array TypeId}
  (ho:ops[i]? = some o)(hw:Region.wanted o (yielded ops a.tmps)=true)(hk:b.kind ≠ .early)(hop:o.op=.call { callee:=.value (.func f),args,argTypes:=ats })
  (hf:P.funcs[f]? = some fn)(hname:(fn.name == "runtime.NumGoroutine")=false)(hb:fn.body=some c)(main:Bool)(w:World) :
  stepG P main (gor (b.at a (.inRegion ops (i::rest)::k)) cs) w=.go (gor ((base f).at { tmps:=args.map a.eval++Array.replicate (fn.ntmps-(args.map a.eval).size) undef,defers:=[] } [.code c]) (b.at a (.inRegion ops (i::rest)::k)::cs)) w #[]:=
 PM (goes_call ho hw hk hop hf hname hb ⟨rfl,rfl,rfl⟩)
theorem za9(L:WgLink):(addFn L).body=some (body_add L):=rfl
theorem ZK(L:WgLink):(waitFn L).body=some (body_wait L):=rfl
theorem zaA(L:WgLink)(x y:Value):#[x,y]++Array.replicate ((addFn L).ntmps-(#[x,y]:Array Value).size) undef=#[x,y,undef,undef,undef,undef,undef,undef,undef,undef,undef,undef,undef,undef,undef,undef,undef,undef,undef,undef,undef,undef,undef,undef,undef,undef,undef,undef,undef,undef,undef,undef,undef,undef,undef,undef,undef,undef,undef,undef,undef,undef,undef,undef,undef,undef,undef,undef,undef,undef,undef,undef,undef,undef,undef,undef,undef,undef,undef,undef,undef,undef,undef,undef,undef,undef,undef,undef,undef,undef,undef,undef,undef,undef,undef,undef,undef,undef,undef,undef,undef,undef,undef,undef,undef,undef,undef,undef,undef,undef,undef,undef,undef,undef,undef,undef,undef,undef,undef,undef,undef,undef,undef,undef,undef,undef,undef,undef,undef,undef,undef,undef,undef,undef,undef,undef,undef]:=by kernel_rfl
theorem ZL(L:WgLink)(x:Value):#[x]++Array.replicate ((waitFn L).ntmps-(#[x]:Array Value).size) undef=#[x,undef,undef,undef,undef,undef,undef,undef,undef,undef,undef,undef,undef,undef,undef,undef,undef,undef,undef,undef,undef,undef,undef,undef,undef,undef,undef,undef,undef,undef,undef,undef,undef,undef,undef,undef,undef,undef,undef,undef,undef,undef,undef,undef,undef,undef,undef,undef,undef,undef,undef,undef,undef,undef,undef,undef,undef,undef,undef,undef,undef,undef,undef,undef,undef,undef,undef,undef,undef,undef,undef,undef,undef,undef,undef,undef,undef,undef,undef,undef,undef,undef,undef,undef]:=by kernel_rfl
section
variable {Φ:Ph}{k:List Item}
theorem zbi(hty:Φ.ty=Tryz.link.tWg)(hCW:Φ.C≠Φ.Wg)(hk:b.kind ≠ .early)(h9:a.tmps.getD 9 undef=.pointer (some ⟨Φ.Wg,0,none⟩)){Nx:Frame->List Frame->Prop}
  (hN:Nx (b.at (a.put (some 41) (.tuple #[])) (.inRegion (xO 9) []::k)) cs):Bi oPP Φ Nx (b.at a (.inRegion (xO 9) [0]::k)) cs:=by
 obtain⟨o,d1,d2,d3,d4⟩:=Oj (p:=fun _=>true) c9a c9b;by_cases hJ:∃w,Φ.J w
 ·obtain⟨w,hw⟩:=hJ;refine Bi.step (fun w=>Lc d1 (by simp[Region.wanted,d3]) hk d4 Tryz.KU.f_add (nm_add Tryz.link) (za9 Tryz.link) true w) ⟨100,?_⟩;have e:(#[Operand.tmp 9,.const (.int .i64 1)].map a.eval)=#[.pointer (some ⟨Φ.Wg,0,none⟩),.int .i64 1]:=by simp[Act.eval,h9]
  rw[e,zaA];have W:=@Ys _ oPP Tryz.link Φ cs b a (xO 9) 0 [] k Tryz.KU hCW Nx (by rw[d1];simp only[Option.bind_some,d2];exact hN) w hw;exact Sil.of (w:=w) W
 ·exact⟨0,fun w w₁ h=>absurd ⟨w₁,h⟩ hJ⟩
theorem ZM(hty:Φ.ty=Tryz.link.tWg)(hCW:Φ.C≠Φ.Wg)(hk:b.kind ≠ .early)(h9:a.tmps.getD 9 undef=.pointer (some ⟨Φ.Wg,0,none⟩)) :
  kV oPP Φ (PH oPP (b.at (a.put (some 44) (.tuple #[])) (.inRegion (xO 12) []::k)) cs) (b.at a (.inRegion (xO 12) [0]::k)) cs:=by
 obtain⟨o,d1,d2,d3,d4⟩:=Oj (p:=fun _=>true) zbc zbd;by_cases hJ:∃w,Φ.J w
 ·obtain⟨w,hw⟩:=hJ;refine kV.step (fun w=>Lc d1 (by simp[Region.wanted,d3]) hk d4 Tryz.KU.f_wait (nm_wait Tryz.link) (ZK Tryz.link) true w) ?_;have e:(#[Operand.tmp 9].map a.eval)=#[.pointer (some ⟨Φ.Wg,0,none⟩)]:=by simp[Act.eval,h9]
  rw[e,ZL];have W:=@Wt _ oPP Tryz.link Φ cs b a (xO 12) 0 [] k Tryz.KU hCW w hw;rw[d1]at W;simp only[Option.bind_some,d2]at W;exact W
 ·exact⟨fun _=>True,fun g _=>⟨0,fun w w₁ h=>absurd ⟨w₁,h⟩ hJ⟩,0,fun w w₁ h=>absurd ⟨w₁,h⟩ hJ⟩
end
end Go.Proofs.YtopmdepgpabipaaGreatDoor
end
section
namespace Go.Proofs.YtopmdepgpabipaaGreatDoor
open Go Go.Eng Go.Conc Go.RowKit Go.Conc.Lib Go.ConcR.Gen
open Go.ConcR (KK wgBlock WgAt stA smA rd wr DC0 Payload)
variable {a:Act}{bS c fb ib j l n pb sb wg:Nat}{h:qaA}{x:Option Addr}
section
variable {S:Shared}{Φ:Ph}{b:Frame}{k:List Item}{cs:List Frame}
theorem Yx{i fb pb sb ib:Nat}(hk:b.kind ≠ .early)(h42:a.tmps.getD 42 undef=.func (.func 103) #[] (qq Φ.Wg fb pb sb ib)){Nx:Frame->List Frame->qaA->Prop}{hh h1 hc:qaA}
  (s1:qaB h1 hh)(sc:qaB hc hh)(hap:∀x,¬Φ.S x->hc x≠none->h1 x=none)(hro:∀x,Φ.S x->h1 x=hh x)(hW:Works oPP Φ i (Og (Fo Φ.Wg fb pb sb ib)) [] hc)
  (hN:Nx (b.at a (.inRegion (xO 10) []::k)) cs h1):CP oPP Φ i Nx (b.at a (.inRegion (xO 10) [1]::k)) cs hh:=by
 obtain⟨o,d1,d2,d3,d4⟩:=Oj (p:=fun _=>true) zbg zbh;refine⟨h1,hc,s1,sc,hap,hro,fun w hw hJ=>⟨_,_,_,_,?_,hW,hN⟩⟩;have hr:(execOp a.eval o).run oPP w=.ok (.spawn (Fo Φ.Wg fb pb sb ib)) w:=by
  unfold execOp;simp only[d4,resolve,Deferred.ofValue,Act.eval,h42];simp[Fo,qq,go_sem]
 have he:(execOp a.eval o).events oPP w #[]=#[]:=by
  unfold execOp;simp only[d4,resolve,Deferred.ofValue,Act.eval,h42];simp[qq,go_sem]
 have st:=stepG_spawn (P:=oPP) (main:=true) (b:=b) (a:=a) (k:=k) (cs:=cs) (w:=w) (rest:=[]) d1 (by simp[Region.wanted,d3]) hk hr rfl;unfold listed at st;rw[he,seen_none,d2]at st;exact st
theorem ZN(hk:b.kind ≠ .early){rest:List Nat}{Post:Frame->List Frame->qaA->Prop}
  (h9:a.tmps.getD 9 undef=.pointer (some ⟨wg,0,none⟩))(h3:a.tmps.getD 3 undef=.pointer (some ⟨fb,0,none⟩))(h11:a.tmps.getD 11 undef=.pointer (some ⟨pb,0,none⟩))(h7:a.tmps.getD 7 undef=.pointer (some ⟨sb,0,none⟩))(h10:a.tmps.getD 10 undef=.pointer (some ⟨ib,0,none⟩))
  (K:Eng.Safe oPP S Post (b.at (a.put (some 42) (.func (.func 103) #[] (qq wg fb pb sb ib))) (.inRegion (xO 10) rest::k)) cs h):Eng.Safe oPP S Post (b.at a (.inRegion (xO 10) (0::rest)::k)) cs h:=by
 obtain⟨o,d1,d2,d3,d4⟩:=Oj (p:=fun _=>true) zbe zbf;refine FQ (.func (.func 103) #[] (qq wg fb pb sb ib)) d1 (by simp[Region.wanted,d3]) hk (fun w=>?_) (fun w=>?_) (by rw[d2];exact K)
 ·unfold execOp;simp[d4,Act.eval,h9,h3,h11,h7,h10,qq,go_sem]
 ·unfold execOp;simp[d4,Act.eval,h9,h3,h11,h7,h10,go_sem]
theorem go5{c0:Code}(A:AtL a (.slice x l c) fb sb bS wg n j)(hi:Inv S h) :
  Eng.Safe oPP S (Eng.Reach S b 47 (.code c0::k) cs [0,3,7,8,9,22,23,24] (fun f h'=>RS h (.slice x l c) fb sb bS wg n j f h'/\f 24=.bool (decide ((j:Int)<n)))) (b.at a (.code (.seq (rP 5) c0)::k)) cs h:=by
 refine FR (rs:=[rP 5]) (ps:=S7) Fp Fq s5 A.Ip A.sz A.df hi ?_;simp only[t5,Tr.wp];exact jV.intro W9 rfl rfl rfl rfl ⟨⟨rfl,rfl,rfl,rfl,rfl,rfl,rfl,rfl⟩,by simp only[got,W9,WC,Ex.ev,coerce,toInt_int,z9,vA,vB,vC,List.getElem?_cons_succ]⟩
theorem zbj(A:AtL a (.slice x l c) fb sb bS wg n j)(hi:Inv S h)(hj:j<2^40) :
  Eng.Safe oPP S (Eng.Reach S b 47 k cs [0,3,7,8,9,22,23] (RS h (.slice x l c) fb sb bS wg n (j+1))) (b.at a (.code (rP 11)::k)) cs h:=by
 refine Z6 (ps:=S7) Fp Fq s11 A.Ip A.sz A.df hi ?_;simp only[t11,Tr.wp];have w2:IntKind.i64.wrap ((j:Int)+1)=((j+1:Nat):Int):=by rw[IntKind.wrap_i64];omega
 exact jV.intro S6 rfl rfl rfl rfl ⟨rfl,rfl,rfl,rfl,rfl,rfl,by simp only[got,S6,WC,Ex.ev,coerce,toInt_int,arith,Cst.val,vA,vB,vC,List.getElem?_cons_succ,w2],rfl⟩
theorem AtL.reach{x:Value}{f:Nat->Value}{h h':qaA}{is:List Nat}(hs:a.tmps.size=47)(hd:a.defers=[])(hf:∀i∈is,a.tmps.getD i undef=f i)
  (hi:[0,3,7,8,9,22,23].all (fun i=>is.contains i)=true)(R:RS h x fb sb bS wg n j f h'):AtL a x fb sb bS wg n j:=by
 obtain⟨r0,r3,r7,r8,r9,r22,r23,_⟩:=R;have g:∀i,i∈([0,3,7,8,9,22,23]:List Nat)->a.tmps.getD i undef=f i:=fun i h=>hf i (by simpa using List.all_eq_true.1 hi i h)
 exact⟨hs,hd,(g 0 (by simp)).trans r0,(g 3 (by simp)).trans r3,(g 7 (by simp)).trans r7,(g 8 (by simp)).trans r8,(g 9 (by simp)).trans r9,(g 22 (by simp)).trans r22,(g 23 (by simp)).trans r23⟩
end
end Go.Proofs.YtopmdepgpabipaaGreatDoor
end
section
namespace Go.Proofs.YtopmdepgpabipaaGreatDoor
open Go Go.Eng Go.Conc Go.RowKit Go.Conc.Lib Go.ConcR.Gen
open Go.ConcR (KK wgBlock WgAt stA smA rd wr DC0 Payload)
variable {xs:List Int}
section
variable {Φ:Ph}{b:Frame}{cs:List Frame}
theorem WG{h h':qaA}{k:IntKind}{a:Option Addr}(H:zo h k a xs)(s:qaB h h'):zo h' k a xs:=fun i x hx=>by
 obtain⟨ad,h1,h2⟩:=H i x hx;refine⟨ad,h1,?_⟩;unfold zj at h2 ⊢;cases e:h (ad.add i).block with
 | none=>rw[e]at h2;cases h2
 | some o=>rw[e]at h2;rw[s _ _ e];exact h2
theorem ZO{H h0:qaA}{n:Nat}(hty:Φ.ty=Tryz.link.tWg)(hCW:Φ.C≠Φ.Wg)(hnb:∀fr cs h Q,¬Φ.S.big fr cs h Q)(hΦn:Φ.n=n){x:Option Addr}{c:Nat}(hx:zo h0 .u8 x xs)(hc:xs.length<=c)
  (hl:xs.length<2^40)(hn:n=(xs.length+32767)/32768){fb sb bS:Nat}{g:FuncId}{F:List Int->Int}(hSd:∀y,Φ.S y->H y≠none)(h0S:∀y o,h0 y=some o->Φ.S y/\H y=some o)(hSb:¬Φ.S bS)
  (hfS:Φ.S fb)(hsS:Φ.S sb)(hfb:H fb=some (.cells #[.func (.func g) #[] #[]] 140))(hsb:H sb=some (.cells #[.slice (some ⟨Φ.C,0,none⟩) n n] 137))
  (hval:∀i,i<n->Φ.val i=.int .u32 (F (partOf xs i)))
  (hsum:∀(h':qaA) (a':Option Addr) (c':Nat) (ys:List Int),Inv Φ.S h'->zo h' .u8 a' ys->ys.length<=32768->(∀y∈ys,y∈xs)->zb oPP Φ.S g #[.slice a' ys.length c'] h' (fun v h''=>v=.int .u32 (F ys)/\qaB h' h''))
  (hk:b.kind ≠ .early){Q:Frame->List Frame->qaA->Prop}
  (hQ:∀a hh,AtL a (.slice x xs.length c) fb sb bS Φ.Wg n n->(∀y,Φ.S y->hh y=H y)->hh bS=some (.cells (szv n xs.length n) 2) ->
   ∀fr' cs',PH oPP (b.at (a.put (some 44) (.tuple #[])) [.inRegion (xO 12) [],.code (rP 13)]) cs fr' cs'->Q fr' cs' hh) :
  ∀r j,j+r=n->∀a hh,AtL a (.slice x xs.length c) fb sb bS Φ.Wg n j->(∀y,Φ.S y->hh y=H y)->hh bS=some (.cells (szv n xs.length j) 2) ->
   Sp oPP Φ Q r (b.at a [.code Oi,.inLoop Oi,.inBlock 0,.code (.seq (rP 12) (rP 13))]) cs hh:=by
 have inv:∀ {hh:qaA},(∀y,Φ.S y->hh y=H y)->Inv Φ.S hh:=fun hro y hy=>by rw[hro y hy];exact hSd y hy
 have agr:∀ {h' H':qaA},qaB h' H'->Inv Φ.S h'->∀y,Φ.S y->H' y=h' y:=by
  intro h' H' s hi y hy;cases e:h' y with
  | none=>exact absurd e (hi y hy)
  | some o=>exact s y o e
 intro r;induction r with
 | zero=>
  intro j hj a hh A hro hbS;have hjn:j=n:=by omega
  subst hjn;unfold Sp;refine(go5 (c0:=_) A (inv hro)).bind ?_;rintro _ _ H' ⟨rfl,a',f,h',rfl,hsz,hdf,hf,⟨R,f24⟩,hsub,hinv⟩;have A':=AtL.reach hsz hdf hf rfl R;obtain⟨_,_,_,_,_,_,_,rfl⟩:=R;have e24:a'.eval (.tmp 24)=.bool false:=by
   show a'.tmps.getD 24 undef=_;rw[hf 24 (by simp),f24];simp
  refine .seq (.cond (t:=false) e24 ?_);simp only[vK,if_false];refine .exit (k':=[.code (.seq (rP 12) (rP 13))]) (by simp[exitTo]) (.seq ?_);rw[zbb];refine .region ?_;rw[ZJ];have hro':∀y,Φ.S y->H' y=H y:=fun y hy=>(agr hsub hinv y hy).trans (hro y hy)
  refine .done (kV.mono (fun fr' cs' hB=>?_) (ZM hty hCW hk A'.s9));exact hQ a' H' A' hro' (hsub _ _ hbS) fr' cs' hB
 | succ r ih=>
  intro j hj a hh A hro hbS;have hjn:j<n:=by omega
  unfold Sp;refine(go5 (c0:=_) A (inv hro)).bind ?_;rintro _ _ H1 ⟨rfl,a1,f1,h1,rfl,hsz1,hdf1,hf1,⟨R1,f24⟩,hsub1,hinv1⟩;have A1:=AtL.reach hsz1 hdf1 hf1 rfl R1;obtain⟨_,_,_,_,_,_,_,rfl⟩:=R1;have e24:a1.eval (.tmp 24)=.bool true:=by
   show a1.tmps.getD 24 undef=_;rw[hf1 24 (by simp),f24];simp only[Value.bool.injEq,decide_eq_true_eq];omega
  have hro1:∀y,Φ.S y->H1 y=H y:=fun y hy=>(agr hsub1 hinv1 y hy).trans (hro y hy)
  have hbS1:=hsub1 _ _ hbS;refine .seq (.cond (t:=true) e24 ?_);simp only[if_true];refine .skip (.seq (.block ?_));refine(FR (rs:=[rP 6,rP 7,rP 8]) (ps:=S7) Fp Fq sBk A1.Ip A1.sz A1.df (inv hro1) (wpB (S:=Φ.S) (h:=H1) (h0:=h0) (n:=n) (j:=j) (fb:=fb) (sb:=sb) (wg:=Φ.Wg) hx hc hl (inv hro1) hn hjn hSb hbS1)).bind ?_;rintro _ _ H2 ⟨rfl,a2,f2,h2,rfl,hsz2,hdf2,hf2,⟨ib,pb,xa,xc,r0,r3,r7,r8,r9,r10,r11,r22,r23,nib,npb,hne,hpi,cib,cpb,cbS,crest⟩,hsub2,hinv2⟩;have A2:AtL a2 (.slice x xs.length c) fb sb bS Φ.Wg n j:=⟨hsz2,hdf2,(hf2 0 (by simp)).trans r0,(hf2 3 (by simp)).trans r3,(hf2 7 (by simp)).trans r7,(hf2 8 (by simp)).trans r8,(hf2 9 (by simp)).trans r9,(hf2 22 (by simp)).trans r22,(hf2 23 (by simp)).trans r23⟩;have t10:=(hf2 10 (by simp)).trans r10;have t11:=(hf2 11 (by simp)).trans r11;have sne:∀y,Φ.S y->y≠ib/\y≠pb/\y≠bS:=fun y hy=>
   ⟨fun e=>by subst e;exact inv hro1 y hy nib,fun e=>by subst e;exact inv hro1 y hy npb,fun e=>by subst e;exact hSb hy⟩
  have hro2:∀y,Φ.S y->H2 y=H y:=fun y hy=>by
   obtain⟨e1,e2,e3⟩:=sne y hy;rw[agr hsub2 hinv2 y hy,crest y e1 e2 e3,hro1 y hy]
  have hib2:=hsub2 _ _ cib;have hpb2:=hsub2 _ _ cpb;have hbS2:=hsub2 _ _ cbS;have bne:bS≠ib/\bS≠pb:=⟨fun e=>(by rw[e,nib]at hbS1;cases hbS1),fun e=>(by rw[e,npb]at hbS1;cases hbS1)⟩;refine .seq ?_;rw[rP9];refine .region ?_;rw[za8];refine .done (zbi hty hCW hk A2.s9 ?_);have A3:=A2.put 41 (.tuple #[]) (.inl rfl);have hs2:41<a2.tmps.size:=by rw[hsz2];omega
  have g3:∀i,i≠41->(a2.put (some 41) (.tuple #[])).tmps.getD i undef=a2.tmps.getD i undef:=fun i hi=>by rw[Jw _ _ _ _ hs2,if_neg hi]
  have u10:=(g3 10 (by omega)).trans t10;have u11:=(g3 11 (by omega)).trans t11;generalize a2.put (some 41) (.tuple #[])=a3 at A3 u10 u11;refine .BP ?_;rw[zba];refine .region ?_;rw[ZI];refine ZN hk A3.s9 A3.s3 u11 A3.s7 u10 (.done ?_);have A4:=A3.put 42 (.func (.func 103) #[] (qq Φ.Wg fb pb sb ib)) (.inr (.inl rfl));have h42:(a3.put (some 42) (.func (.func 103) #[] (qq Φ.Wg fb pb sb ib))).tmps.getD 42 undef=.func (.func 103) #[] (qq Φ.Wg fb pb sb ib):=by
   rw[Jw _ _ _ _ (by rw[A3.sz];omega),if_pos rfl]
  generalize a3.put (some 42) (.func (.func 103) #[] (qq Φ.Wg fb pb sb ib))=a4 at A4 h42;have ej:Φ.n-(r+1)=j:=by rw[hΦn];omega
  rw[ej]
  classical
  let hcw:qaA:=fun y=>if Φ.S y\/y=ib\/y=pb then H2 y else none
  let hm:qaA:=fun y=>if y=ib\/y=pb then none else H2 y
  have hcS:∀y,Φ.S y->hcw y=H y:=fun y hy=>by show(if _ then _ else _)=_;rw[if_pos (.inl hy)];exact hro2 y hy
  have sub0:qaB h0 hcw:=fun y o ho=>by
   obtain⟨e1,e2⟩:=h0S y o ho;rw[hcS y e1];exact e2
  have c1:∀ {y:Nat} {v:Value} {T:TypeId},hcw y=some (.cells #[v] T)->zj hcw ⟨y,0,none⟩=some v:=fun e=>by simp[zj,e]
  refine Yx (ib:=ib) (pb:=pb) (fb:=fb) (sb:=sb) (h1:=hm) (hc:=hcw) hk h42 (fun y o ho=>?_) (fun y o ho=>?_) (fun y hS hy=>?_) (fun y hy=>?_) ?_ ?_
  ·simp only[hm]at ho;split at ho
   ·cases ho
   ·exact ho
  ·simp only[hcw]at ho;split at ho
   ·exact ho
   ·cases ho
  ·simp only[hcw]at hy;split at hy
   ·rename_i hor;show(if _ then _ else _)=_;rw[if_pos (hor.resolve_left hS)]
   ·exact absurd rfl hy
  ·show(if _ then _ else _)=_;obtain⟨e1,e2,_⟩:=sne y hy;rw[if_neg (by simp[e1,e2])]
  ·refine za7 hnb hty hCW (by rw[hΦn];exact hjn) (hval j hjn) (fun y hy=>?_) (c1 ((hcS fb hfS).trans hfb)) (c1 (T:=22) ?_) ?_ (c1 (T:=3) ?_) (hsum hcw xa xc _ (fun y hy=>?_) (WG hpi sub0) (by rw[Ah];unfold qD;omega) (fun y hy=>List.mem_of_mem_drop (List.mem_of_mem_take (by unfold partOf at hy;exact hy))))
   ·rw[hcS y hy];exact hSd y hy
   ·show(if _ then _ else _)=_;rw[if_pos (.inr (.inr rfl))];exact hpb2
   ·rw[hΦn];exact c1 ((hcS sb hsS).trans hsb)
   ·show(if _ then _ else _)=_;rw[if_pos (.inr (.inl rfl))];exact hib2
   ·rw[hcS y hy];exact hSd y hy
  ·refine Sp.pre (.BP (.inBlock ?_));have hrom:∀y,Φ.S y->hm y=H y:=fun y hy=>by
    obtain⟨e1,e2,_⟩:=sne y hy;show(if _ then _ else _)=_;rw[if_neg (by simp[e1,e2])];exact hro2 y hy
   have hbm:hm bS=some (.cells (szv n xs.length (j+1)) 2):=by
    show(if _ then _ else _)=_;rw[if_neg (by simp[bne.1,bne.2])];exact hbS2
   refine(zbj A4 (inv hrom) (by omega)).bind ?_;rintro _ _ H5 ⟨rfl,a5,f5,h5,rfl,hsz5,hdf5,hf5,R5,hsub5,hinv5⟩;have A5:=AtL.reach hsz5 hdf5 hf5 rfl R5;obtain⟨_,_,_,_,_,_,_,rfl⟩:=R5;refine .inLoop (.done ?_);exact ih (j+1) (by omega) a5 H5 A5 (fun y hy=>(agr hsub5 hinv5 y hy).trans (hrom y hy)) (hsub5 _ _ hbm)
end
end Go.Proofs.YtopmdepgpabipaaGreatDoor
end
section
namespace Go.Proofs.YtopmdepgpabipaaGreatDoor
open Go Go.Eng Go.Conc Go.RowKit Go.Conc.Lib Go.ConcR.Gen
open Go.ConcR (KK wgBlock WgAt stA smA rd wr DC0 Payload)
theorem S9:Tryz.f82.body=some Oh:=by kernel_rfl
theorem ZP:Tryz.f82.ntmps=47:=by kernel_rfl
theorem zbk:Tryz.f82.results.toList=cP.results:=by kernel_rfl
def SA(F:List Int->Int)(xs:List Int)(n:Nat):Array Value:=((List.range n).map fun i=>Value.int .u32 (F (partOf xs i))).toArray
theorem zbl(v0 v1:Value)(m:Nat):(#[v0,v1]++Array.replicate m undef).getD 0 undef=v0:=by
 rw[Array.getD_eq_getD_getElem?,Array.getElem?_append_left (by simp)];rfl
theorem zbm(v0 v1:Value)(m:Nat):(#[v0,v1]++Array.replicate m undef).getD 1 undef=v1:=by
 rw[Array.getD_eq_getD_getElem?,Array.getElem?_append_left (by simp)];rfl
def phP(H:qaA)(wg bC bS n:Nat)(F:List Int->Int)(xs:List Int):Ph:=
 { ty:=182,Wg:=wg,C:=bC,ety:=70,n:=n,S:=⟨fun y=>H y≠none/\y≠wg/\y≠bC/\y≠bS,fun _ _ _ _=>False⟩,val:=fun i=>.int .u32 (F (partOf xs i)) }
theorem Mt{s:Nat->Prop}{h:qaA}(hi:Inv (jz oPP s) h){x:Option Addr}{c:Nat}{xs:List Int}(hx:zo h .u8 x xs)(hc:xs.length<=c)(hl:xs.length<2^40){g:FuncId}{F:List Int->Int}
  (hsum:∀(S':Shared) (h':qaA) (a':Option Addr) (c':Nat) (ys:List Int),Inv S' h'->zo h' .u8 a' ys->ys.length<=32768->(∀y∈ys,y∈xs)->zb oPP S' g #[.slice a' ys.length c'] h' (fun v h''=>v=.int .u32 (F ys)/\qaB h' h'')){n:Nat}(hn:n=(xs.length+32767)/32768) :
  zb oPP (jz oPP s) yX #[.slice x xs.length c,.func (.func g) #[] #[]] h (fun v h'=>∃bC bS,v=.tuple #[.slice (some ⟨bC,0,none⟩) n n,.slice (some ⟨bS,0,none⟩) n n] /\
   h' bC=some (.cells (SA F xs n) 70)/\h' bS=some (.cells (szv n xs.length n) 2)/\qaB h h'):=by
 refine .inl ⟨fun vs w=>Ts Tryz.func82 (by kernel_rfl) (by kernel_rfl) vs w,fun cs=>?_⟩;have hent:Frame.enter oPP yX #[.slice x xs.length c,.func (.func g) #[] #[]] .normal=(Frame.enter oPP yX #[.slice x xs.length c,.func (.func g) #[] #[]] .normal).at
   { tmps:=#[.slice x xs.length c,.func (.func g) #[] #[]]++Array.replicate (Tryz.f82.ntmps-(#[.slice x xs.length c,.func (.func g) #[] #[]]:Array Value).size) undef,defers:=[] } [.code Oh]:=by
  simp[Frame.enter,Frame.at,yX,Tryz.func82,S9]
 have zt:(Frame.enter oPP yX #[.slice x xs.length c,.func (.func g) #[] #[]] .normal).kind=.normal:=rfl;have hfn:(Frame.enter oPP yX #[.slice x xs.length c,.func (.func g) #[] #[]] .normal).fn=yX:=rfl;rw[hent];generalize Frame.enter oPP yX #[.slice x xs.length c,.func (.func g) #[] #[]] .normal=b at zt hfn;rw[Wy,ZP];refine(FR (rs:=[rP 0,rP 1,rP 2,rP 3]) (ps:=[(0,.slice),(1,.fnv)]) (env:=[.slice x xs.length c,.func (.func g) #[] #[]]) Fp Fq sA ⟨zbl _ _ _,rfl,zbm _ _ _,rfl,trivial⟩ (by simp) rfl hi (wpA rfl hi hl hn)).bind ?_;rintro _ cs H ⟨rfl,a,f,h',rfl,hsz,hdf,hf,⟨fb,bC,bS,sb,wg,r0,r3,r6,r7,r8,r9,hnd,hnone,hsubh,cfb,cbC,cbS,csb,cwg⟩,hsub,hinv⟩;have sH:qaB h H:=fun y o ho=>hsub y o (hsubh y o ho)
 have iH:Inv (jz oPP s) H:=fun y hy=>by
  cases e:h y with
  | none=>exact absurd e (hi y hy)
  | some o=>rw[sH y o e];simp
 replace cfb:=hsub _ _ cfb;replace cbC:=hsub _ _ cbC;replace cbS:=hsub _ _ cbS;replace csb:=hsub _ _ csb;replace cwg:=hsub _ _ cwg;simp only[List.nodup_cons,List.mem_cons,List.not_mem_nil,or_false,not_or,not_false_eq_true,List.nodup_nil,and_true]at hnd;have hne:∀y,h y≠none->y≠wg/\y≠bC/\y≠bS:=fun y hy=>⟨fun e=>hy (hnone y (by simp[e])),fun e=>hy (hnone y (by simp[e])),fun e=>hy (hnone y (by simp[e]))⟩
 have q:∀i,i∈([0,3,6,7,8,9]:List Nat)->a.tmps.getD i undef=f i:=hf;refine .seq ?_;refine(FR (rs:=[rP 4]) (ps:=[(0,.slice),(3,.addr),(7,.addr),(8,.slice),(9,.addr),(6,.int .i64)])
  (env:=[.slice x xs.length c,.pointer (some ⟨fb,0,none⟩),.pointer (some ⟨sb,0,none⟩),.slice (some ⟨bS,0,none⟩) n n,.pointer (some ⟨wg,0,none⟩),.int .i64 n]) (is:=[0,3,7,8,9,22,23]) (R:=RS H (.slice x xs.length c) fb sb bS wg n 0) (c:=.block 0 (.loop Oi)) Fp Fq s4
  ⟨(q 0 (by simp)).trans r0,rfl,(q 3 (by simp)).trans r3,rfl,(q 7 (by simp)).trans r7,rfl,(q 8 (by simp)).trans r8,rfl,(q 9 (by simp)).trans r9,rfl,(q 6 (by simp)).trans r6,rfl,trivial⟩ hsz hdf iH (by
   simp only[t4,Tr.wp]
   exact jV.intro ZH rfl rfl rfl rfl ⟨rfl,rfl,rfl,rfl,rfl,rfl,rfl,rfl⟩)).bind ?_
 rintro _ cs H' ⟨rfl,a1,f1,h1,rfl,hsz1,hdf1,hf1,R1,hsub1,hinv1⟩;have A1:=AtL.reach hsz1 hdf1 hf1 rfl R1;obtain⟨_,_,_,_,_,_,_,rfl⟩:=R1;replace cfb:=hsub1 _ _ cfb;replace cbC:=hsub1 _ _ cbC;replace cbS:=hsub1 _ _ cbS;replace csb:=hsub1 _ _ csb;replace cwg:=hsub1 _ _ cwg;replace sH:qaB h H':=fun y o ho=>hsub1 y o (sH y o ho)
 clear iH hinv1 hsub1 hsub hf q hinv hsubh;refine .block (.loop ?_);have hk:b.kind ≠ .early:=by rw[zt];decide
 let Φ:=phP H' wg bC bS n F xs
 have hS:∀y,Φ.S y<->(H' y≠none/\y≠wg/\y≠bC/\y≠bS):=fun y=>Iff.rfl
 have rest_eq:∀y,Φ.S y->Φ.rest H' y=H' y:=fun y hy=>by
  unfold Ph.rest;rw[if_neg];rintro(e | e)
  ·exact hy.2.1 e
  ·exact hy.2.2.1 e
 refine .big H' (fun _=>none) (fun fr' cs' h''=>∃a2,AtL a2 (.slice x xs.length c) fb sb bS wg n n/\PH oPP (b.at (a2.put (some 44) (.tuple #[])) [.inRegion (xO 12) [],.code (rP 13)]) cs fr' cs' /\
   h'' bC=some (.cells (SA F xs n) 70)/\h'' bS=some (.cells (szv n xs.length n) 2)/\∀y,Φ.S y->h'' y=H' y) (xK _).symm (fun y hy=>absurd rfl hy) ?_ ?_
 ·refine⟨Φ,yl n #[.int .u32 0],⟨fun _ _ _ _ h=>h,?_,?_,cwg,cbC,by simp[yl,Φ,phP],fun y hy=>?_,fun y hy=>?_⟩,?_⟩
  ·show n<_;omega
  ·show bC≠wg;omega
  ·have e1:=hi y hy;refine⟨?_,hne y e1⟩;cases e:h y with
   | none=>exact absurd e e1
   | some o=>rw[sH y o e];simp
  ·rw[rest_eq y hy];exact hy.1
  ·refine ZO (Φ:=Φ) (H:=H') (h0:=h) (n:=n) (g:=g) (F:=F) rfl (show bC≠wg by omega) (fun _ _ _ _ h=>h) rfl hx hc hl hn (fun y hy=>hy.1) (fun y o ho=>⟨⟨by rw[sH y o ho];simp,hne y (by rw[ho];simp)⟩,sH y o ho⟩)
    (fun hy=>hy.2.2.2 rfl) ⟨by rw[cfb];simp,by omega,by omega,by omega⟩ ⟨by rw[csb];simp,by omega,by omega,by omega⟩ cfb csb (fun i _=>rfl) (fun h' a' c' ys=>hsum Φ.S h' a' c' ys) hk ?_ n 0 (by omega) a1 _ A1 rest_eq ?_
   ·intro a2 hh A2 hro hbS fr' cs' hB;refine⟨a2,A2,hB,?_,?_,fun y hy=>?_⟩
    ·exact yS
    ·exact(yI (show bS≠bC by omega)).trans hbS
    ·exact(yI hy.2.2.1).trans (hro y hy)
   ·unfold Ph.rest;rw[if_neg (by rintro(e | e);exact absurd (show bS=wg from e) (by omega);exact absurd (show bS=bC from e) (by omega)),cbS,WB]
 ·rintro fr' cs' h2 ⟨a2,A2,hB,e1,e2,e3⟩ _ _;rw[xK];refine hB _ _ _ (.BP ?_);have A3:=A2.put 44 (.tuple #[]) (.inr (.inr rfl));have i2:Inv (jz oPP s) h2:=fun y hy=>by
   have x1:=hi y hy;cases e:h y with
   | none=>exact absurd e x1
   | some o=>
    have x2:=sH y o e;rw[e3 y ⟨by rw[x2];simp,hne y x1⟩,x2];simp
  have s2:qaB h h2:=fun y o ho=>by
   have x2:=sH y o ho;rw[e3 y ⟨by rw[x2];simp,hne y (by rw[ho];simp)⟩];exact x2
  have csb2:h2 sb=some (.cells #[.slice (some ⟨bC,0,none⟩) n n] 137):=by
   rw[e3 sb ⟨by rw[csb];simp,by omega,by omega,by omega⟩];exact csb
  have ha:Ok (jz oPP s) h2 (fun _=>none):=⟨fun b hb=>absurd rfl hb,i2⟩;rw[<-xK h2];refine Tq (cfg:=cP) (f:=yX) (Λ:=yb) (Ks:=[]) Fp Fq zt hfn Tryz.func82 zbk (rP 13) (EB 47 [(7,.addr),(8,.slice)]) tZ [.pointer (some ⟨sb,0,none⟩),.slice (some ⟨bS,0,none⟩) n n] [] _ _ h2 [] sZ Es
   (Rel.of ⟨A3.s7,rfl,A3.s8,rfl,trivial⟩ A3.sz A3.df) ha rfl ?_ ⟨?_,?_⟩
  ·simp only[tZ,Tr.wp,Ex.ev,coerce,zc,ze,zd,zf,SV.den,zy,zq,vA,vB,vD,vE,vI,vH,and_true,if_false,vK];refine⟨some ⟨bC,0,none⟩,n,n,by simp[zj,Addr.add,csb2],bC,bS,?_,e1,e2,s2⟩;rfl
  ·intro _ _ _ _ _ _ _ h;exact h.elim
  ·intro _ _ _ _ _ _ _ _ h;exact h.elim
end Go.Proofs.YtopmdepgpabipaaGreatDoor
end
namespace Go.Proofs.YtopmdepgpabipaaGreatDoor
open Go Go.Eng Go.IntWalk
section
variable {S:Shared}{h:qaA}
section
theorem Jx(hi:qaC S h)(p q n:Int)(hn:0<=n/\n<=1000000) :
  zb oPP S Ar #[.int .u32 p,.int .u32 q,.int .i64 n] h (fun v h'=>v=.int .u32 (KS p q n)/\h'=h):=by
 refine Hd (vs:=[.int .u32 p,.int .u32 q,.int .i64 n]) ⟨rfl,rfl,rfl,trivial⟩ hi ?_;simp only[Ds,Tr.wp,Ex.ev,coerce,toInt_int,za,jA,z9,arith,Cst.val,SV.den,vA,vB,decide_eq_true_eq,and_true];refine⟨fun c=>?_,fun _=>rfl⟩;simp only[Bool.or_eq_true,decide_eq_true_eq]at c;omega
theorem UI(xs:List Int){n j:Nat}(hn:n=(xs.length+32767)/32768)(hj:j<n):xs.take (min ((j+1)*32768) xs.length)=xs.take (min (j*32768) xs.length)++partOf xs j:=by
 have e1:min (j*32768) xs.length=j*32768:=by omega
 have h1:j*32768<=min ((j+1)*32768) xs.length:=by omega
 have e2:min ((j+1)*32768) xs.length=j*32768+qD xs.length j:=(Nat.add_sub_cancel' h1).symm;rw[e1,e2,List.take_add];simp only[partOf]
theorem Yy{xs:List Int}(hb:okB xs)(j:Nat):okB (partOf xs j):=fun x hx=>by
 unfold partOf at hx;have h1:=List.mem_of_mem_take hx;have h2:=List.mem_of_mem_drop h1;exact hb x h2
theorem Ch{s:Nat->Prop}(hi:qaC (jz oPP s) h)(c0:Int)(hc0:0<=c0/\c0<4294967296)(a:Option Addr)(c:Nat)(xs:List Int)(hb:okB xs)(hx:zo h .u8 a xs)(hc:xs.length<=c)(hl:xs.length<2^40) :
  zb oPP (jz oPP s) kg #[.int .u32 c0,.slice a xs.length c] h (fun v h'=>v=.int .u32 (yQ c0 xs)/\qaB h h'):=by
 refine FC (vs:=[.int .u32 c0,.slice a xs.length c]) ⟨rfl,rfl,trivial⟩ hi ?_;simp only[BY,Tr.wp,z4,Ex.ev,coerce,toInt_int,za,zc,ze,zd,zf,zM,z9,arith,Cst.val,SV.den,zn,zL,zz,zk,zi,zy,zV,zq,vF,vG,vA,vB,vC,List.getElem?_cons_succ,decide_eq_true_eq,decide_eq_false_iff_not,vD,vE,vI,vH,vJ,List.length_cons,List.length_nil,Nat.zero_add,and_true,if_true,if_false,vK];refine⟨fun hle=>?_,fun hgt=>?_⟩
 ·refine(DD hi c0 a c xs hx (by omega)).mono ?_;rintro _ h' ⟨rfl,rfl⟩;exact⟨_,rfl,rfl,fun _ _ h=>h⟩
 ·refine(DD hi c0 none 0 [] (fun i x hx=>by simp at hx) (by simp)).mono ?_;rintro _ h' ⟨rfl,rfl⟩;refine⟨_,rfl,?_⟩;obtain⟨n,hn⟩:∃n,n=(xs.length+32767)/32768:=⟨_,rfl⟩;refine(Mt (g:=83) (F:=yQ 1) hi hx hc hl (fun S' h' a' c' ys hi' hx' hl' _=>U7 hi' a' c' ys hx' (by omega)) hn).mono ?_;rintro _ h1 ⟨bC,bS,rfl,e1,e2,s1⟩;have i1:qaC (jz oPP s) h1:=fun y hy=>by
   cases e:h' y with
   | none=>exact absurd e (hi y hy)
   | some o=>rw[s1 y o e];simp
  have ok0:=Yd hc0;refine⟨_,_,_,_,_,_,rfl,fun us h2=>∃j:Nat,us=[.int .u32 (yQ c0 (xs.take (min (j*32768) xs.length))),.int .i64 j]/\j<=n/\h2=h1,fun us _=>n-(toInt (us.getD 1 undef)).toNat,⟨0,by simp,by omega,rfl⟩,?_⟩;rintro x y h2 ⟨j,hx1,hj,rfl⟩;simp only[List.cons.injEq,Value.int.injEq,true_and,and_true]at hx1;obtain⟨rfl,rfl⟩:=hx1;refine⟨fun hlt=>?_,fun hge=>?_⟩
  ·have hjn:j<n:=by omega
   have w2:IntKind.i64.wrap ((j:Int)+1)=((j+1:Nat):Int):=zr;have c1:zj h2 (((((some (⟨bC,0,none⟩:Addr)).getD default).add ((j:Int).toNat*1))).add 0)=some (.int .u32 (yQ 1 (partOf xs j))):=by
    simp[zu,zj,e1,SA,hjn]
   have c2:zj h2 (((((some (⟨bS,0,none⟩:Addr)).getD default).add ((j:Int).toNat*1))).add 0)=some (.int .i64 (qD xs.length j)):=by
    simp[zu,zj,e2,szv,hjn]
   refine⟨rfl,by omega,by omega,_,c1,rfl,by omega,by omega,_,c2,?_⟩;have hpl:qD xs.length j<=1000000:=by unfold qD;omega
   refine(Jx i1 _ _ _ ⟨by omega,by omega⟩).mono ?_;rintro _ h3 ⟨rfl,rfl⟩;refine⟨_,rfl,⟨j+1,?_,by omega,rfl⟩,?_⟩
   ·have okt:okB (xs.take (min (j*32768) xs.length)):=fun z hz=>hb z (List.mem_of_mem_take hz)
    have J:=Sz (Mm ok0 okt) (Yy hb j) (by rw[Ah];exact hpl);rw[Ah]at J;rw[w2,UI xs hn hjn];simp only[List.cons.injEq,Value.int.injEq,true_and,and_true];unfold yQ at J ⊢;rw[J,List.foldl_append]
   ·simp only[w2,vB,vA,toInt_int,Int.toNat_natCast];omega
  ·obtain rfl:j=n:=by omega
   refine⟨?_,s1⟩;rw[show min (j*32768) xs.length=xs.length by omega,List.take_length]
end
variable {bm c:Nat}{a:Option Addr}{bs:List Int}{T:TypeId}{x:Int}{h0:qaA}
section
section
structure ErrZ(h:qaA):Prop where
 el:ErrL h
 e4:zj h ⟨2,0,none⟩=some (.int .i64 4)
 e5:zj h ⟨1,0,none⟩=some (.int .i64 5)
theorem ErrZ.sub{h':qaA}(H:ErrZ h)(s:qaB h h'):ErrZ h':=⟨H.el.sub s,xF s H.e4,xF s H.e5⟩
theorem ZQ{x b:Int}(hx:0<=x/\x<16777216)(hb:0<=b/\b<256):Go.bits .or .u32 (x*256) b=x*256+b:=by
 obtain⟨n,rfl⟩:=Int.eq_ofNat_of_zero_le hx.1;obtain⟨m,rfl⟩:=Int.eq_ofNat_of_zero_le hb.1;have e:((n:Int)*256)=((n*256:Nat):Int):=by omega
 have h1:(BitVec.ofInt 32 ((n*256:Nat):Int)).toNat=n*256:=by rw[BitVec.ofInt_natCast,BitVec.toNat_ofNat];exact Nat.mod_eq_of_lt (by omega)
 have h2:(BitVec.ofInt 32 (m:Int)).toNat=m:=by rw[BitVec.ofInt_natCast,BitVec.toNat_ofNat];exact Nat.mod_eq_of_lt (by omega)
 have e2:=Nat.two_pow_add_eq_or_of_lt (i:=8) (b:=m) (by omega) n;rw[e];show IntKind.u32.wrap ((BitVec.ofInt 32 ((n*256:Nat):Int) ||| BitVec.ofInt 32 (m:Int)).toNat:Int)=_;have e3:n*256=2^8*n:=by omega
 rw[BitVec.toNat_or,h1,h2,e3,<-e2,IntKind.wrap_u32];omega
section
variable {m:MC}
theorem SB(hi:qaC S h0)(G:Errs h0)(hx:zo h0 .u8 a bs)(L:bs.length<=1048576)(p:Nat)(hp:p<=8*bs.length)(n:Nat)(hn:n<=4)(M:MAt h0 h bm a c bs p m T) :
  zb oPP S j1 #[.pointer (some ⟨bm,0,none⟩),.int .i64 n] h (fun v h'=>∃p':Nat,p'<=8*bs.length /\
   v=.tuple #[.int .u32 (if(hig bs n ⟨p,0⟩ 0).1.k=0 then(hig bs n ⟨p,0⟩ 0).2 else 0),yh (hig bs n ⟨p,0⟩ 0).1.k]/\((hig bs n ⟨p,0⟩ 0).1.k=0->(hig bs n ⟨p,0⟩ 0).1=⟨p',0⟩)/\h'=upd h bm (zX a c bs p' m T)):=by
 refine Gy (vs:=[.pointer (some ⟨bm,0,none⟩),.int .i64 n]) ⟨rfl,rfl,trivial⟩ (hi.sub M.sb) ?_;simp only[CC,Tr.wp,z4,Ex.ev,coerce,toInt_int,za,zf,zx,xb,z9,arith,Cst.val,SV.den,zn,zL,zz,zk,zi,zy,zV,vF,vG,vA,vB,vC,decide_eq_true_eq,decide_eq_false_iff_not,vD,vE,vI,vH,vJ,List.length_cons,List.length_nil,Nat.zero_add,Nat.add_zero,if_true,if_false,vK,zu];refine⟨fun us h'=>∃(j p':Nat) (x:Int),us=[.int .u32 x,.int .i64 j]/\j<=n/\p'<=8*bs.length/\0<=x/\x<256^j/\hig bs (n-j) ⟨p',0⟩ x=hig bs n ⟨p,0⟩ 0/\h'=upd h bm (zX a c bs p' m T),fun us _=>n-(toInt (us.getD 1 undef)).toNat,
  ⟨0,p,0,rfl,by omega,hp,by omega,by simp,by simp,(qR M.hb).symm⟩,?_⟩
 rintro x y h' ⟨j,p',x',hx1,hj,hp',g0,g1,e,rfl⟩;simp only[List.cons.injEq,Value.int.injEq,true_and,and_true]at hx1;obtain⟨rfl,rfl⟩:=hx1;refine⟨fun hlt=>?_,fun hge=>?_⟩
 ·have hjn:j<n:=by omega
  refine⟨by simp,?_⟩;refine(Jm hi G hx L p' hp' 8 (by omega) (M.keep rfl)).mono ?_;rintro _ h2 ⟨rfl,rfl⟩;rw[xw];have nm:=yp (bs:=bs) (n:=8) (r:=⟨(p':Int),0⟩);have e8:(2:Int)^8=256:=by decide
  rw[e8]at nm;have est:hig bs n ⟨p,0⟩ 0=hig bs (n-(j+1)) (tk bs 8 ⟨p',0⟩).1 (256*x+(tk bs 8 ⟨p',0⟩).2):=by
   rw[<-e,show n-j=n-(j+1)+1 by omega];rfl
  have okt:okR bs (tk bs 8 ⟨(p':Int),0⟩).1:=y7 fun _=>⟨by simp only;omega,by simp only;omega⟩
  have hpos:∃q:Nat,q<=8*bs.length/\(tk bs 8 ⟨(p':Int),0⟩).1.i=q:=by
   unfold tk;rw[if_pos rfl];split
   ·exact⟨p',hp',rfl⟩
   ·rename_i h;simp only at h;exact⟨p'+8,by omega,by simp only;omega⟩
  obtain⟨q,hq,eq⟩:=hpos;refine⟨_,yh (tk bs 8 ⟨p',0⟩).1.k,zg,by rw[zg],fun hz=>?_,fun hz=>?_⟩
  ·rw[zg,zP]at hz;have hk:(tk bs 8 ⟨(p':Int),0⟩).1.k≠0:=by simpa using hz
   have eb:(hig bs n ⟨p,0⟩ 0).1=(tk bs 8 ⟨p',0⟩).1:=by rw[est,BE hk]
   rw[eb];exact⟨q,hq,by rw[if_neg hk,zg],fun h=>absurd h hk,by rw[eq]⟩
  ·rw[zg,zP]at hz;have hk:(tk bs 8 ⟨(p':Int),0⟩).1.k=0:=by simpa using hz
   have hp3:(256:Int)^j<=256^3:=by
    have:((256^j:Nat):Int)<=((256^3:Nat):Int):=by exact_mod_cast Nat.pow_le_pow_right (by decide) (show j<=3 by omega)
    simpa using this
   have e3:(256:Int)^3=16777216:=by decide
   have ws:IntKind.u32.wrap (x*2^min (Int.toNat 8) IntKind.u32.bits)=x*256:=by
    rw[show(2:Int)^min (Int.toNat 8) IntKind.u32.bits=256 from rfl,IntKind.wrap_u32];omega
   have wb:IntKind.u32.wrap (tk bs 8 ⟨(p':Int),0⟩).2=(tk bs 8 ⟨(p':Int),0⟩).2:=by rw[IntKind.wrap_u32];omega
   have w2:IntKind.i64.wrap ((j:Int)+1)=((j+1:Nat):Int):=zr;rw[ws,wb,ZQ (by omega) nm,w2,eq];have er:(tk bs 8 ⟨(p':Int),0⟩).1=⟨(q:Int),0⟩:=by
    generalize (tk bs 8 ⟨(p':Int),0⟩).1=X at hk eq;obtain⟨i,kk⟩:=X;simp only at hk eq;rw[hk,eq]
   rw[er,Int.mul_comm 256 x]at est;refine⟨⟨j+1,q,_,rfl,by omega,hq,by omega,by rw[Int.pow_succ];omega,est.symm,rfl⟩,by simp only[vB,vA,toInt_int];omega⟩
 ·obtain rfl:j=n:=by omega
  rw[Nat.sub_self]at e;have eh:hig bs j ⟨p,0⟩ 0=(⟨p',0⟩,x):=e.symm;rw[eh];exact⟨p',hp',by simp[yh],fun _=>rfl,rfl⟩
end
end
section
variable {k:KC}{F:Nat}{Fin:Rd × List Int}
theorem WH(hi:qaC S h0)(G:ErrL h0)(hro:k.room<=200000)(hdl:k.dl<=40000)(hsz:1<=k.sz/\k.sz<=32768)(hx:zo h0 .u8 k.a k.bs)(L:k.bs.length<=1048576)(hFl:8*k.bs.length+1<=F){n0:Nat}(H0:Bh h0 k F Fin (fnV k yq) h n0) :
  zb oPP S qe #[.pointer (some ⟨k.bm,0,none⟩)] h (Pt h0 k Fin):=by
 refine E6 (vs:=[.pointer (some ⟨k.bm,0,none⟩)]) ⟨rfl,trivial⟩ (hi.sub (by obtain⟨_,_,hb,_,_,_,s,H,_⟩:=H0;exact s.trans H.sb)) ?_;simp only[AX,Tr.wp,z4,Ex.ev,coerce,za,zf,zx,xb,SV.den,zn,zL,zz,zk,zi,zy,vF,vG,vA,vB,vD,vE,vI,vH,vJ,Nat.add_zero,if_false,vK,zu];refine⟨by simp,by simp,?_⟩;refine zb.mono (Xc hi G hro hdl hsz hx L hFl H0) ?_;rintro _ h3 ⟨hb,last,l,d,rfl,sb,H3,ok3⟩;exact⟨_,zg,by rw[zg],hb,last,l,d,by rw[zg],sb,H3,ok3⟩
end
section
variable {s:Nat -> Prop}
def PF(h0:qaA)(bm:Nat)(a:Option Addr)(c:Nat)(bs:List Int)(T:TypeId)(x:qo)(v:Value)(h':qaA):Prop:=
 ∃(K:Int) (p:Nat) (m:MC) (xs:List Int) (ao:Option Addr) (co:Nat),v=yh K/\h' bm=some (zX a c bs p m T)/\m.out=.slice ao xs.length co/\Part .u8 h' (.slice ao xs.length co) xs/\qaD h0 (.slice ao xs.length co)/\qaB h0 h'/\p<=8*bs.length /\
  (K≠0->x=(K,xs,0,()))/\(K=0->x=(1,xs,((p/8:Nat):Int),()))
theorem Xk{h1:qaA}(hi:qaC (jz oPP s) h)(G:ErrZ h)(hx:zo h .u8 a bs)(L:bs.length<=65536)(p:Nat)(hp:p<=8*bs.length)(hb:h bm=none)(sb:qaB h h1)
  (hm:h1 bm=some (zX a c bs p ⟨.pointer none,.slice none 0 0,100000,false,.pointer none,.pointer none⟩ T))(hx0:0<=x)(hx1:x<65536)(hx7:x/4096<=7){au:Option Addr}{cu:Nat}{us:List Int}(hu:zo h1 .u8 au us)(hcu:us.length<=cu)(hul:us.length<=1048576)(hub:okB us)(Ks:List Kt)(e1 e3:Value) :
  ziE.wp oPP (jz oPP s) yb (PF h bm a c bs T (zA bs (zS x) us ⟨p,0⟩)) [.pointer (some ⟨bm,0,none⟩),e1,.int .u32 x,e3,.slice au us.length cu] h1 Ks:=by
 simp only[ziE,Tr.wp,z4,Ex.ev,coerce,toInt_int,za,zc,ze,zd,zf,zx,xb,z9,arith,Cst.val,SV.den,zn,zL,zz,zk,zi,zy,zq,yk,vF,vG,vA,vB,decide_eq_true_eq,vD,vE,vI,vH,vJ,List.length_cons,List.length_nil,Nat.zero_add,Nat.add_zero,and_true,if_true,if_false,vK,zu];have eS:zS x=2^(x/4096+8).toNat:=by unfold zS;rw[if_pos hx7]
 have hS1:1<=zS x:=by rw[eS];exact Nat.one_le_two_pow
 have hS2:=Xe hx0;have ws:Int.fdiv x (2^min (Int.toNat 8) IntKind.u32.bits)=x/256:=by rw[show(2:Int)^min (Int.toNat 8) IntKind.u32.bits=256 from rfl,Int.fdiv_eq_ediv_of_nonneg _ (by omega)]
 have wq:IntKind.u32.wrap ((x/256).tdiv 16)=x/4096:=by rw[Int.tdiv_eq_ediv_of_nonneg (by omega),IntKind.wrap_u32];omega
 have wa:IntKind.u32.wrap (x/4096+8)=x/4096+8:=by rw[IntKind.wrap_u32];omega
 have wz:IntKind.i64.wrap (1*2^min (x/4096+8).toNat IntKind.i64.bits)=((zS x:Nat):Int):=by
  have:IntKind.i64.bits=64:=rfl;rw[eS,Int.one_mul,show min (x/4096+8).toNat IntKind.i64.bits=(x/4096+8).toNat by rw[this];omega,yC];exact i64_in _ (by omega)
 rw[ws,wq,wa,wz];refine⟨by omega,?_⟩;refine zb.mono (Pf (sz:=zS x) (hi.sub sb) au cu us hcu (by omega) hu hS1 hS2) ?_;rintro _ h2 ⟨bw,TW,rfl,RW⟩;obtain⟨dd,at_,nn,hbw,R,s2,hnw⟩:=RW;have ne:bm≠bw:=fun e=>by rw[<-e,hm]at hnw;cases hnw
 have hm2:=s2 _ _ hm;have hsb:¬(jz oPP s) bm:=fun hs=>hi bm hs hb
 obtain⟨_,_,g2,_⟩:=yO hm2;refine⟨_,rfl,by simp,kS hm2 hsb g2,?_⟩;obtain⟨k,hk⟩:∃k:KC,k=⟨a,c,bs,(zB (zS x) us).length,100000,zS x,T,TW,bm,bw,[]⟩:=⟨_,rfl⟩;obtain⟨h3,hh3⟩:∃h3,h3=upd h2 bm (zX a c bs p ⟨.pointer (some ⟨bw,0,none⟩),.slice none 0 0,100000,false,.pointer none,.pointer none⟩ T):=⟨_,rfl⟩;have es:zQ h2 ⟨bm,2,none⟩ (.pointer (some ⟨bw,0,none⟩))=h3:=by rw[hh3,hset_cells' hm2];rfl
 rw[es];have sb2:=sb.trans s2;have s3:qaB h h3:=by rw[hh3];exact xJ sb2 hb
 have hnw0:h bw=none:=ya sb hnw;obtain⟨f1,f2,f3⟩:=Pw (bs:=bs) (us:=us) (r:=⟨(p:Int),0⟩) hS2;have okr:okR bs ⟨(p:Int),0⟩:=fun _=>⟨by simp only;omega,by simp only;omega⟩
 have H0:IM h h3 k ⟨(p:Int),0⟩ (zB (zS x) us) false (.pointer none) (.pointer none):=by
  subst hk;have ed:(zB (zS x) us).drop (zB (zS x) us).length=[]:=List.drop_length;refine⟨⟨p,none,0,hp,fun _=>rfl,?_,?_,?_⟩,⟨dd,at_,nn,?_,by rw[F7];exact R,s3,hnw0⟩,hb,ne,s3,⟨Nat.le_refl _,Nat.le_add_right _ _,by simp⟩⟩
  ·rw[hh3,upd_same];simp only[xk,KC.otl,ed,Nat.sub_self];rfl
  ·simp only[KC.otl,ed,vJ];exact Part.nil
  ·intro z hz;simp only[KC.otl,ed]at hz;cases hz
  ·rw[hh3,upd_ne (Ne.symm ne)];exact hbw
 have RA:Bh h k (8*bs.length+1) (zE bs (zS x) us ⟨(p:Int),0⟩) (fnV k yq) h3 (mz k ⟨(p:Int),0⟩+0):=by
  refine⟨⟨(p:Int),0⟩,zB (zS x) us,h,false,_,_,fun _ _ e=>e,H0,rfl,by subst hk;exact okr,8*bs.length+1,by subst hk;simp only;omega,.inl ⟨rfl,rfl,?_⟩⟩;subst hk;rfl
 have K:=WH (S:=jz oPP s) hi G.el (by subst hk;simp) (by subst hk;simp only;omega) (by subst hk;simp only;omega) (by subst hk;exact hx) (by subst hk;simp only;omega) (by subst hk;exact Nat.le_refl _) RA;have ebm:k.bm=bm:=by rw[hk]
 rw[ebm]at K;refine zb.mono K ?_;clear K;rintro _ h4 ⟨hb4,last,l,d,rfl,sb4,H4,ok4⟩;have ebs:k.bs=bs:=by rw[hk]
 have ekc:∀p4 m4,zX k.a k.c k.bs p4 m4 k.T=zX a c bs p4 m4 T:=fun p4 m4=>by rw[hk]
 have eotl:k.otl (zE bs (zS x) us ⟨(p:Int),0⟩).2=zO bs (zS x) us ⟨(p:Int),0⟩:=by rw[hk];rfl
 have hO:(zO bs (zS x) us ⟨(p:Int),0⟩).length<=100000:=by unfold zO;rw[List.length_drop];omega
 have hOb:=Zw (bs:=bs) (sz:=zS x) (r:=⟨(p:Int),0⟩) hub;generalize hE:zE bs (zS x) us ⟨(p:Int),0⟩=X at H4 ok4 eotl;obtain⟨xs,hxs⟩:∃xs,xs=zO bs (zS x) us ⟨(p:Int),0⟩:=⟨_,rfl⟩;rw[<-hxs]at eotl hO hOb;refine⟨_,zg,by rw[zg],fun hz=>?_,fun hz=>?_⟩
 ·rw[zg,zP]at hz;have hk1:X.1.k≠0:=by simpa using hz
  obtain⟨p4,ao,co,hp4,hr4,hbm4,P4,N4⟩:=H4.mt;rw[ebm,ekc]at hbm4;rw[eotl]at hbm4 P4 N4;have eA:=Yj (bs:=bs) (us:=us) (sz:=zS x) (r:=⟨(p:Int),0⟩) (by rw[hE];exact hk1);rw[hE,<-hxs]at eA;rw[zg];exact⟨X.1.k,p4,_,xs,ao,co,rfl,hbm4,rfl,P4,fun z hz=>ya sb4 (IM.xH N4 hz).2.2,sb4.trans H4.sb,by rw[ebs]at hp4;exact hp4,fun _=>eA,fun h=>absurd h hk1⟩
 ·rw[zg,zP]at hz;have hk1:X.1.k=0:=by simpa using hz
  have hib:=hi.sub sb4;have H4':=H4;rw[show h4=h4 from rfl]at H4';have KA:=Rj hib (by rw[ebs];omega) H4 hk1;rw[ebm]at KA;refine⟨by simp,zb.mono KA ?_⟩;rintro _ h5 ⟨rfl,H5⟩;have oka:okR bs (alg X.1):=Bg (by rw[ebs]at ok4;exact ok4);obtain⟨p5,ao,co,hp5,hr5,hbm5,P5,N5⟩:=H5.mt;rw[ebm,ekc]at hbm5;rw[eotl]at hbm5 P5 N5;rw[ebs]at hp5;have hka:(alg X.1).k=0:=by unfold alg;rw[if_pos hk1]
  have ea:alg X.1=⟨(p5:Int),0⟩:=by
   have:=hr5 hka;generalize alg X.1=Y at hka this;obtain⟨i,kk⟩:=Y;simp only at hka this;rw[hka,this]
  have hnb4:hb4 bm=none:=ebm▸H5.nm;have KB:=SB hib ((G.sub sb4).el.es) (hx.sub sb4) (by omega) p5 hp5 4 (by omega) ⟨hbm5,hnb4,H5.sb⟩;refine⟨rfl,zb.mono KB ?_⟩;rintro _ h6 ⟨p6,hp6,rfl,hr6,rfl⟩;have eT:hig bs 4 ⟨(p5:Int),0⟩ 0=zT bs (zS x) us ⟨(p:Int),0⟩:=by unfold zT;rw[hE,ea]
  rw[eT]at hr6 ⊢;have s56:qaB h (upd h5 bm (zX a c bs p6 (xk k X.2 (.slice ao xs.length co) last l d) T)):=xJ (sb4.trans H5.sb) hb;have hm6:upd h5 bm (zX a c bs p6 (xk k X.2 (.slice ao xs.length co) last l d) T) bm=some (zX a c bs p6 (xk k X.2 (.slice ao xs.length co) last l d) T):=upd_same;have P6:Part .u8 (upd h5 bm (zX a c bs p6 (xk k X.2 (.slice ao xs.length co) last l d) T)) (.slice ao xs.length co) xs:=P5.keep fun z hz=>upd_ne (ebm▸(IM.xH N5 hz).1)
  have N6:qaD h (.slice ao xs.length co):=fun z hz=>ya sb4 (IM.xH N5 hz).2.2
  generalize upd h5 bm (zX a c bs p6 (xk k X.2 (.slice ao xs.length co) last l d) T)=h6 at s56 hm6 P6;refine⟨_,_,zg,by rw[zg],fun hz=>?_,fun hz=>?_⟩
  ·rw[zg,zP]at hz;have hkT:(zT bs (zS x) us ⟨(p:Int),0⟩).1.k≠0:=by simpa using hz
   have eA:=Yk (bs:=bs) (us:=us) (sz:=zS x) (r:=⟨(p:Int),0⟩) hkT;rw[<-hxs]at eA;rw[zg];exact⟨_,p6,_,xs,ao,co,rfl,hm6,rfl,P6,N6,s56,hp6,fun _=>eA,fun h=>absurd h hkT⟩
  ·rw[zg,zP]at hz;have hkT:(zT bs (zS x) us ⟨(p:Int),0⟩).1.k=0:=by simpa using hz
   obtain⟨_,_,_,u3,_⟩:=yO hm6;obtain⟨_,_,eo,hco,go⟩:=P6.ints;cases eo
   refine⟨by simp,_,_,_,u3,?_⟩;refine zb.mono (Ch (hi.sub s56) 1 ⟨by omega,by omega⟩ ao co xs hOb go hco (by omega)) ?_;rintro _ h7 ⟨rfl,s7⟩;rw[if_pos hkT];refine⟨_,rfl,fun hne=>?_,fun heq=>?_⟩
   ·have hne:(zT bs (zS x) us ⟨(p:Int),0⟩).2≠yQ 1 xs:=by simpa using hne
    have eA:=Zx (bs:=bs) (us:=us) (sz:=zS x) (r:=⟨(p:Int),0⟩) hkT (by rw[<-hxs];exact hne);rw[<-hxs]at eA;exact⟨4,(G.sub (s56.trans s7)).e4,4,p6,_,xs,ao,co,rfl,s7 _ _ hm6,rfl,P6.sub s7,N6,s56.trans s7,hp6,fun _=>eA,fun h=>by cases h⟩
   ·have heq:(zT bs (zS x) us ⟨(p:Int),0⟩).2=yQ 1 xs:=by simpa using heq
    have eA:=Yn (bs:=bs) (us:=us) (sz:=zS x) (r:=⟨(p:Int),0⟩) hkT (by rw[<-hxs];exact heq);rw[<-hxs,hr6 hkT]at eA;exact⟨0,p6,_,xs,ao,co,rfl,s7 _ _ hm6,rfl,P6.sub s7,N6,s56.trans s7,hp6,fun h=>absurd rfl h,fun _=>by rw[eA];rfl⟩
end
end
end
end Go.Proofs.YtopmdepgpabipaaGreatDoor
section
namespace Go.Proofs.YtopmdepgpabipaaGreatDoor
open Go Go.Eng Go.ChangeShapes Go.WideShapes Go.ChangeAt Go.RowKit Go.Conc
theorem zaB:oPP.globalNamed "loop.example/s02972/impl.errSum" = some 2:=by kernel_rfl
theorem ZR:oPP.globalNamed "loop.example/s02972/impl.errDict" = some 1:=by kernel_rfl
theorem ZS:(oPP.globals[(2:Nat)]?).map (·.type)=some tCl:=by kernel_rfl
theorem Yz:(oPP.globals[(1:Nat)]?).map (·.type)=some tCl:=by kernel_rfl
noncomputable def Ld(os:Os):World:=
 let w0:=Ui os
 let put (g:Nat) (v:Value) (hp:Array Obj):Array Obj:=hp.modify g fun
   | .cells _ t frozen=>.cells #[v] t frozen
   | o=>o
 { w0 with heap:=put 2 (.int .i64 4) (put 1 (.int .i64 5) w0.heap) }
section
variable {H:Type}{enc:TypeId × Value -> H}
theorem Fs{a:Assume}{C:Checked}{os:Os}{f:FuncId}{fn:Func}{s:ChangeSpec}{conds:List PathCond}{apart fresh handsOn again:Bool}{X:World->Array Value->Prop}
  (hX:∀(w w':World) (args:Array Value),w.heap=w'.heap->X w args->X w' args)
  (own:ownKnob C.prog.godebug=none)(started:os.Started)(hfn:C.prog.funcs[f]? = some fn)
  (witness:∃(w:World) (tape:Tape) (i:Input),w.os=os/\(w.forCall tape i).Shaped C.prog/\i.vars=[]/\Input.okWide C.prog (w.forCall tape i) .any w.heap.size f i /\
   ((s.pre enc C.prog fn conds apart (w.forCall tape i).memory i.args/\X (w.forCall tape i).memory i.args)/\sizedMet enc C.prog fn (OpenSpec.ofChange s) apart (w.forCall tape i).memory i.args)/\a.holds C.prog (lone (Frame.enter C.prog f i.args .normal) [] (w.forCall tape i)))
  (runs:∀(W:World) (base:Nat) (args:Array Value) (ds gs:List (DataW H)) (before:List MemPlace),
   (∀(j:Nat) t v,fn.params[j]? = some t->args[j]? = some v->Value.okWide C.prog W .any base t v) ->
   DataW.Whole enc C.prog fn.params.toList s.vars apart W args.toList ds gs before ->
   conds.all (PathCond.test C.prog ⟨fn.params.toList,ds,s.plain.varTypes C.prog,gs⟩)=true ->
   (DataW.weightsEach C.prog (fn.params.toList++s.plain.varTypes C.prog) (ds++gs)).all (· <= reachBytes)=true->X W args ->
   a.holds C.prog (lone (Frame.enter C.prog f args .normal) [] W) ->
   ∃M last o w' t',runNT C.prog (M+1) (solo (G (Frame.enter C.prog f args .normal) []) W) #[]=(.ended o w',t')/\runN C.prog M (solo (G (Frame.enter C.prog f args .normal) []) W)=.next last /\
    step C.prog last=.ended o w'/\Conc.Good C.prog (fun v W'=>s.post enc C.prog fn apart fresh handsOn again W args v W') last o w' t') :
  ReturnsInLeavingWide a C os f .any (fun w args=>(s.pre enc C.prog fn conds apart w args/\X w args)/\sizedMet enc C.prog fn (OpenSpec.ofChange s) apart w args) (s.post enc C.prog fn apart fresh handsOn again):=by
 refine returnsInLeavingWide_of_good own started witness ?_;intro w tape i _ _ _ hok hpre hholds;obtain⟨_,_,_,fn',hfn',_,_,_,_,hval⟩:=hok;have e:fn'=fn:=Option.some.inj (hfn'.symm.trans hfn);subst e;obtain⟨⟨⟨ds,gs,before,hw,hc⟩,hx⟩,hz⟩:=hpre;have hw':=DataW.Whole.of_heap (w':=w.forCall tape i) (by rfl) hw;obtain⟨M,last,o,w',t',h1,h2,h3,h4⟩:=runs (w.forCall tape i) w.heap.size i.args ds gs before hval hw' hc (hz.weights hw) (hX _ _ _ (by rfl) hx) hholds;exact⟨M,last,o,w',t',h1,h2,h3,h4.mono fun v hp=>ChangeSpec.post_blind hp⟩
end
theorem Lg(Lk:Looks){p:Pinned}{s:OpenSpec}{c:OpenClaim}(kinds:List LaidKind)(tests:Bool)(har:Bool×String)(lk:Bool)
  (hc:c.holds p s)(hw:c.wfByText s=true)(htie:c.laidByTextAt Lk p kinds tests)
  (hst:c.start=.entering)(hnb:c.noBlocks=false/\c.again=false)(hm:p.checked.prog.mainIs=some (har.1,har.2.toList))(hn:(!har.1&&har.2.isEmpty && !lk)=false)
  (hl:∀f fn,p.checked.prog.funcNamed c.func=some f->p.checked.prog.funcs[f]? = some fn->lk=p.checked.prog.looks []/\∀(j:Nat) t,fn.params[j]? = some t->p.checked.prog.wantsStandIn t=false)
  (hg:true=c.goesBy p.checked.prog) :
  Claim7.holds p (.plain s) { stood:={ row:=c,standIns:=[],harness:=har,looks:=lk },kinds:=[],alts:=[],laidByText:=true,laidKinds:=kinds,laidTests:=tests,laidLooks:=Lk,goes:=true }:=by
 have h6:∀r:OpenClaim,Claim7.isSixth { stood:={ row:=r,standIns:=[],harness:=har,looks:=lk },kinds:=[] }=false:=fun r=>by simpa[Claim7.isSixth]using hn
 refine⟨?_,fun D hD=>(by cases hD),htie,(fun h=>by cases h),hg⟩;exact Claim7.tied_new_at Lk kinds tests (Claim7.new_of_sixth hc har lk hst hnb hm (h6 c) hl) hw
end Go.Proofs.YtopmdepgpabipaaGreatDoor
end
