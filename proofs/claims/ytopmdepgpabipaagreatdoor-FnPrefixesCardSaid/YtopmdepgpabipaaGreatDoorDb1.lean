import Derived.Calls
import Derived.Below
import Derived.Orders
set_option maxRecDepth 100000
set_option maxHeartbeats 8000000
set_option linter.unusedVariables false
set_option linter.unusedSimpArgs false
set_option linter.unusedSectionVars false
section
universe u v
theorem vA {α : Type u} {x : α} {xs : List α} {d : α} : (x :: xs).getD 0 d = x := List.getD_cons_zero
theorem vB {α : Type u} {x : α} {xs : List α} {n : Nat} {d : α} : (x :: xs).getD (n + 1) d = xs.getD n d := List.getD_cons_succ
theorem vC {α : Type u} {a : α} {l : List α} : (a :: l)[0]? = some a := List.getElem?_cons_zero
theorem vD {α : Type u} {β : Type v} {f : α -> β} {a : α} {l : List α} : List.map f (a :: l) = f a :: List.map f l := List.map_cons
theorem vE {α : Type u} {β : Type v} {f : α -> β} : List.map f [] = [] := List.map_nil
theorem vF {α : Type u} {β : Type v} {x : α} {xs : List α} {f : α -> List β} : (x :: xs).flatMap f = f x ++ xs.flatMap f := List.flatMap_cons
theorem vG {α : Type u} {β : Type v} {f : α -> List β} : ([] : List α).flatMap f = [] := List.flatMap_nil
theorem vH {α : Type u} {l : List α} : [] ++ l = l := List.nil_append l
theorem vI {α : Type u} {a : α} {l m : List α} : a :: l ++ m = a :: (l ++ m) := List.cons_append
theorem vJ {α : Type u} {l : List α} : l ++ [] = l := List.append_nil l
theorem vK : (false = true) = False := Bool.false_eq_true
namespace Go.Eng
open Go
abbrev Heap:=Nat->Option Obj
def Has(w:World)(h:Heap):Prop:=∀b o,h b=some o->w.heap[b]? = some o
variable {w:World}{h:Heap}{b:Nat}
theorem Has.lt(hw:Has w h){o:Obj}(hb:h b=some o):b<w.heap.size:=by
 have:=hw b o hb;rcases Nat.lt_or_ge b w.heap.size with hlt | hge
 ·exact hlt
 ·simp[Array.getElem?_eq_none hge]at this
structure Shared where
 s:Nat->Prop
 big:Frame->List Frame->Heap->(Frame->List Frame->Heap->Prop)->Prop
instance:CoeFun Shared (fun _=>Nat->Prop):=⟨Shared.s⟩
def plus(h f:Heap):Heap:=fun b=>match h b with | some o=>some o | none=>f b
def Apart(h f:Heap):Prop:=∀b,f b≠none->h b=none
variable {f:Heap}
theorem ye:plus h f b=none<->h b=none/\f b=none:=by
 unfold plus;cases h b <;> simp
theorem J4(a b c:Heap):plus (plus a b) c=plus a (plus b c):=by
 funext x;unfold plus;cases a x <;> rfl
theorem J5{a b c:Heap}:Apart a (plus b c)<->Apart a b/\Apart a c:=by
 constructor
 ·exact fun h=>⟨fun x hx=>h x fun e=>hx (ye.1 e).1,fun x hx=>h x fun e=>hx (ye.1 e).2⟩
 ·exact fun⟨h1,h2⟩ x hx=>by
   cases hb:b x with
   | some o=>exact h1 x (by rw[hb];simp)
   | none=>
    cases hc:c x with
    | some o=>exact h2 x (by rw[hc];simp)
    | none=>exact absurd (ye.2 ⟨hb,hc⟩) hx
structure Kept(S:Shared)(h h':Heap)(w w':World):Prop where
 os:w'.os=w.os
 tape:w'.tape=w.tape
 output:w'.output=w.output
 size:w.heap.size<=w'.heap.size
 old:∀b,b<w.heap.size->h b=none->w'.heap[b]? = w.heap[b]? /\ h' b=none
 has:Has w' h'
 ro:∀b,S b->h' b=h b
def Quiet:Mark->Prop
 | .noRoom | .extern _=>True
 | _=>False
def Ai(S:Shared)(h:Heap)(w w':World)(e:Event):Prop:=
 (∃a,e.loc=.cell a/\e.sync=false/\(h a.block≠none\/w.heap.size<=a.block)/\(e.write=true->¬S a.block)/\a.block<w'.heap.size)\/∃m,Quiet m/\e=⟨.mark m,false,true⟩
def gor(fr:Frame)(cs:List Frame):Goroutine:={ frame:=fr,callers:=cs,status:=.running,dying:=none }
inductive Safe (P:Program) (S:Shared) (Post:Frame->List Frame->Heap->Prop):Frame->List Frame->Heap->Prop
 | done {fr:Frame} {cs:List Frame} {h:Heap}:Post fr cs h->Safe P S Post fr cs h
 | step {fr:Frame} {cs:List Frame} {h:Heap} (fr':World->Bool->Frame) (cs':World->Bool->List Frame) (w':World->Bool->World)
   (es:World->Bool->Array Event) (h':World->Bool->Heap) :
   (∀w m,Has w h->stepG P m (gor fr cs) w=.go (gor (fr' w m) (cs' w m)) (w' w m) (es w m)/\Kept S h (h' w m) w (w' w m)/\∀e∈es w m,Ai S h w (w' w m) e) ->
   (∀w m,Has w h->Safe P S Post (fr' w m) (cs' w m) (h' w m))->Safe P S Post fr cs h
 | big {fr:Frame} {cs:List Frame} {h:Heap} (h0 f:Heap) (Q:Frame->List Frame->Heap->Prop):h=plus h0 f->Apart h0 f->S.big fr cs h0 Q ->
   (∀fr' cs' h',Q fr' cs' h'->Apart h' f->(∀b,S b->h' b=h0 b)->Safe P S Post fr' cs' (plus h' f))->Safe P S Post fr cs h
variable {P:Program}{S:Shared}{fr:Frame}{cs:List Frame}
theorem Safe.mk{Post:Frame->List Frame->Heap->Prop}
  (H:∀w m,Has w h->∃fr' cs' w' es h',stepG P m (gor fr cs) w=.go (gor fr' cs') w' es/\Kept S h h' w w'/\(∀e∈es,Ai S h w w' e)/\Safe P S Post fr' cs' h') :
  Safe P S Post fr cs h:=by
 classical
 refine Safe.step (fun w m=>if c:Has w h then(H w m c).choose else fr) (fun w m=>if c:Has w h then(H w m c).choose_spec.choose else cs)
  (fun w m=>if c:Has w h then(H w m c).choose_spec.choose_spec.choose else w) (fun w m=>if c:Has w h then(H w m c).choose_spec.choose_spec.choose_spec.choose else #[])
  (fun w m=>if c:Has w h then(H w m c).choose_spec.choose_spec.choose_spec.choose_spec.choose else h) ?_ ?_
 ·intro w m c;simp only[dif_pos c];have X:=(H w m c).choose_spec.choose_spec.choose_spec.choose_spec.choose_spec;exact⟨X.1,X.2.1,X.2.2.1⟩
 ·intro w m c;simp only[dif_pos c];exact(H w m c).choose_spec.choose_spec.choose_spec.choose_spec.choose_spec.2.2.2
theorem Safe.bind{Post Post':Frame->List Frame->Heap->Prop}
  (H:Safe P S Post fr cs h)(K:∀fr cs h,Post fr cs h->Safe P S Post' fr cs h):Safe P S Post' fr cs h:=by
 induction H with
 | done p=>exact K _ _ _ p
 | step fr' cs' w' es h' hs _ ih=>exact .step fr' cs' w' es h' hs ih
 | big h0 f Q e ha hb _ ih=>exact .big h0 f Q e ha hb ih
theorem Has.left(H:Has w (plus h f)):Has w h:=fun b o hb=>H b o (by simp[plus,hb])
theorem Has.right(H:Has w (plus h f))(ha:Apart h f):Has w f:=fun b o hb=>H b o (by
 have:h b=none:=ha b (by rw[hb];simp)
 simp[plus,this,hb])
theorem Has.plus(H:Has w h)(K:Has w f):Has w (plus h f):=fun b o hb=>by
 unfold Eng.plus at hb;cases hh:h b with
 | some x=>rw[hh]at hb;exact H b o (by rw[hh];exact hb)
 | none=>rw[hh]at hb;exact K b o hb
variable {h2:Heap}{w':World}
theorem Ai.mono{e:Event}(H:Ai S h w w' e)(hh:∀b,h b≠none->h2 b≠none):Ai S h2 w w' e:=by
 rcases H with⟨a,h1,h2,h3,h4⟩ | h
 ·exact .inl ⟨a,h1,h2,h3.imp (hh _) id,h4⟩
 ·exact .inr h
theorem Kept.frame{h h' f:Heap}(K:Kept S h h' w w')(H:Has w (plus h f))(ha:Apart h f) :
  Kept S (plus h f) (plus h' f) w w'/\Apart h' f:=by
 have hf:=H.right ha;have ha':Apart h' f:=by
  intro b hb;cases hfb:f b with
  | none=>exact absurd hfb hb
  | some o=>exact(K.old b (hf.lt hfb) (ha b hb)).2
 refine⟨⟨K.os,K.tape,K.output,K.size,?_,?_,?_⟩,ha'⟩
 ·intro b hlt hb;rw[ye]at hb;obtain⟨x,y⟩:=K.old b hlt hb.1;exact⟨x,ye.2 ⟨y,hb.2⟩⟩
 ·intro b o hb;cases hh:h' b with
  | some x=>simp[plus,hh]at hb;subst hb;exact K.has b _ hh
  | none=>
   simp[plus,hh]at hb;have hn:h b=none:=ha b (by rw[hb];simp);rw[(K.old b (hf.lt hb) hn).1];exact hf b o hb
 ·intro b hb;simp[plus,K.ro b hb]
theorem Safe.frame{Post:Frame->List Frame->Heap->Prop}
  (H:Safe P S Post fr cs h)(f:Heap)(ha:Apart h f):Safe P S (fun fr cs h2=>∃h1,Post fr cs h1/\Apart h1 f/\h2=plus h1 f) fr cs (plus h f):=by
 induction H with
 | done p=>exact .done ⟨_,p,ha,rfl⟩
 | @step fr cs h fr' cs' w' es h' hs _ ih=>
  refine Safe.mk fun w m hw=>?_
  obtain⟨h1,h2,h3⟩:=hs w m hw.left;obtain⟨k1,k2⟩:=h2.frame hw ha;exact⟨_,_,_,_,plus (h' w m) f,h1,k1,fun e he=>(h3 e he).mono (fun b hb hn=>hb (ye.1 hn).1),ih w m hw.left k2⟩
 | @big fr cs h h0 g Q e hap hb _ ih=>
  subst e;have h2:=ha;refine .big h0 (plus g f) Q (J4 _ _ _) (J5.2 ⟨hap,fun b hb=>(ye.1 (ha b hb)).1⟩) hb fun fr' cs' h' q ap hs=>?_
  obtain⟨ap1,ap2⟩:=J5.1 ap;have:=ih fr' cs' h' q ap1 hs fun b hb=>ye.2 ⟨ap2 b hb,(ye.1 (ha b hb)).2⟩
  rwa[J4]at this
theorem xK(h:Heap):plus h (fun _=>none)=h:=by
 funext b;unfold plus;cases h b <;> rfl
theorem Safe.more{Post Post':Frame->List Frame->Heap->Prop}
  (H:Safe P S Post fr cs h)(f:Heap)(ha:Apart h f)(K:∀fr cs h1,Post fr cs h1->Apart h1 f->Safe P S Post' fr cs (plus h1 f)):Safe P S Post' fr cs (plus h f):=
 (H.frame f ha).bind fun _ _ _ ⟨h1,p,q,e⟩=>e▸K _ _ h1 p q
theorem Kept.refl(H:Has w h):Kept S h h w w:=
 ⟨rfl,rfl,rfl,Nat.le_refl _,fun _ _ hb=>⟨rfl,hb⟩,H,fun _ _=>rfl⟩
theorem Safe.ym{Post:Frame->List Frame->Heap->Prop}{fr fr':Frame}{cs cs':List Frame}
  (H:∀w m,stepG P m (gor fr cs) w=.go (gor fr' cs') w #[])(K:Safe P S Post fr' cs' h):Safe P S Post fr cs h:=
 Safe.mk fun w m hw=>⟨fr',cs',w,#[],h,H w m,.refl hw,by simp,K⟩
theorem Safe.less{Post:Frame->List Frame->Heap->Prop}
  (H:Safe P S Post fr cs h)(hle:∀b o,h b=some o->h2 b=some o)(hS:∀b,S b->h2 b=h b)
  (K:∀fr cs h1 h2,Post fr cs h1->(∀b o,h1 b=some o->h2 b=some o)->(∀b,S b->h2 b=h1 b)->Post fr cs h2):Safe P S Post fr cs h2:=by
 have e:h2=plus h (fun b=>match h b with | some _=>none | none=>h2 b):=by
  funext b;cases hb:h b with
  | some o=>simp[plus,hb,hle b o hb]
  | none=>simp[plus,hb]
 rw[e];refine H.more _ (fun b hb=>?_) (fun fr cs h1 p q=>.done (K _ _ h1 _ p (fun b o hb=>by simp[plus,hb]) (fun b hs=>?_)))
 ·cases hh:h b with
  | none=>rfl
  | some o=>simp[hh]at hb
 ·cases hh:h b with
  | some o=>simp[plus,hh];cases h1 b <;> rfl
  | none=>
   have:h2 b=none:=by rw[hS b hs,hh]
   simp[plus,hh,this];cases h1 b <;> rfl
end Go.Eng
namespace Go.Eng
open Go
def EvOk'(S:Shared)(h:Heap)(B B':Nat)(e:Event):Prop:=
 (∃a,e.loc=.cell a/\e.sync=false/\(h a.block≠none\/B<=a.block)/\(e.write=true->¬S a.block)/\a.block<B')\/∃m,Quiet m/\e=⟨.mark m,false,true⟩
theorem size_setCell(w:World)(a:Addr)(v:Value):(w.setCell a v).heap.size=w.heap.size:=by
 unfold World.setCell;split <;> simp
theorem I7(w:World)(a:Addr)(n:Nat):(w.freeze a n).heap.size=w.heap.size:=by
 unfold World.freeze;split <;> simp
variable {w:World}{v:Value}
theorem QD{a:Addr}(h:w.cell? a=some v):a.block<w.heap.size:=by
 rcases Nat.lt_or_ge a.block w.heap.size with h1 | h1
 ·exact h1
 ·simp[World.cell?,Array.getElem?_eq_none h1]at h
def wpE(P:Program)(S:Shared)(h:Heap)(B:Nat){α:Type}:Sem α->World->(α->World->Prop)->Prop
 | .pure a,w,K=>K a w
 | .load m a k,w,K=>m=.plain/\(h a.block≠none\/B<=a.block)/\∃v,w.cell? a=some v/\wpE P S h B (k v) w K
 | .store m a v k,w,K=>m=.plain/\(h a.block≠none\/B<=a.block)/\¬S a.block/\(∃u,w.cell? a=some u)/\w.frozen? a=false/\v.cells=#[v]/\(∀x,v ≠ .tuple x)/\(∀x,v ≠ .agg x) /\
   wpE P S h B k (w.setCell a v) K
 | .new o k,w,K=>wpE P S h B (k w.heap.size) { w with heap:=w.heap.push o } K
 | .shape r k,w,K=>wpE P S h B (k (w.shape? r)) w K
 | .frozen a k,w,K=>wpE P S h B (k (w.frozen? a)) w K
 | .freeze a n k,w,K=>wpE P S h B k (w.freeze a n) K
 | .choose q k,w,K=>if q.forced then wpE P S h B (k 0) w K else wpE P S h B (k (q.cut (w.tape w.drawn q))) { w with drawn:=w.drawn+1 } K
 | .program k,w,K=>wpE P S h B (k P) w K
 | .mark m k,w,K=>Quiet m/\wpE P S h B k w K
 | _,_,_=>False
variable {P:Program}{S:Shared}{h:Heap}{B:Nat}
theorem Lu{α:Type}(s:Sem α):∀ {w:World} {K:α->World->Prop},wpE P S h B s w K ->
  ∀es0,∃a w' es,s.runT P w es0=(.ok a w',es)/\K a w'/\w.heap.size<=w'.heap.size/\∀e∈es,e∈es0\/EvOk' S h B w'.heap.size e:=by
 induction s with
 | pure a=>exact fun H es0=>⟨a,_,es0,rfl,H,Nat.le_refl _,fun e he=>.inl he⟩
 | load m a k ih=>
  rintro w K ⟨rfl,hb,v,hv,H⟩ es0;obtain⟨x,w',es,e1,e2,e0,e3⟩:=ih v H (es0.push ⟨.cell a,false,false⟩);refine⟨x,w',es,?_,e2,e0,fun e he=>?_⟩
  ·simp only[Sem.runT,hv];exact e1
  ·rcases e3 e he with h1 | h1
   ·rcases Array.mem_push.1 h1 with h2 | h2
    ·exact .inl h2
    ·subst h2;exact .inr (.inl ⟨a,rfl,rfl,hb,by simp,Nat.lt_of_lt_of_le (QD hv) e0⟩)
   ·exact .inr h1
 | store m a v k ih=>
  rintro w K ⟨rfl,hb,hs,⟨u,hu⟩,hf,hv,ht,hg,H⟩ es0;obtain⟨x,w',es,e1,e2,e0,e3⟩:=ih H (es0.push ⟨.cell a,true,false⟩);have e0':w.heap.size<=w'.heap.size:=by rw[size_setCell]at e0;exact e0
  refine⟨x,w',es,?_,e2,e0',fun e he=>?_⟩
  ·cases v with
   | agg c=>exact absurd rfl (hg c)
   | tuple c=>exact absurd rfl (ht c)
   | _=>simp only[Sem.runT,hu,hf];exact e1
  ·rcases e3 e he with h1 | h1
   ·rcases Array.mem_push.1 h1 with h2 | h2
    ·exact .inl h2
    ·subst h2;exact .inr (.inl ⟨a,rfl,rfl,hb,fun _=>hs,Nat.lt_of_lt_of_le (QD hu) e0'⟩)
   ·exact .inr h1
 | new o k ih=>
  exact fun H es0=>let⟨x,w',es,e1,e2,e0,e3⟩:=ih _ H es0;⟨x,w',es,e1,e2,by simp at e0;omega,e3⟩
 | shape r k ih=>exact fun H es0=>ih _ H es0
 | freeze a n k ih=>exact fun H es0=>let⟨x,w',es,e1,e2,e0,e3⟩:=ih H es0;⟨x,w',es,e1,e2,by rw[I7]at e0;exact e0,e3⟩
 | frozen a k ih=>exact fun H es0=>ih _ H es0
 | getObj r k ih=>exact fun H=>H.elim
 | setObj r o k ih=>exact fun H=>H.elim
 | choose q k ih=>
  intro w K H es0;by_cases hq:q.forced
  ·simp only[wpE,hq,if_true]at H;simp only[Sem.runT,hq,if_true];exact ih _ H es0
  ·simp only[wpE,hq,if_false,vK]at H;simp only[Sem.runT,hq,if_false,vK];exact ih _ H es0
 | sys c k ih=>exact fun H=>H.elim
 | program k ih=>exact fun H es0=>ih _ H es0
 | mark m k ih=>
  rintro w K ⟨hm,H⟩ es0;obtain⟨x,w',es,e1,e2,e0,e3⟩:=ih H (es0.push ⟨.mark m,false,true⟩);refine⟨x,w',es,e1,e2,e0,fun e he=>?_⟩;rcases e3 e he with h1 | h1
  ·rcases Array.mem_push.1 h1 with h2 | h2
   ·exact .inl h2
   ·subst h2;exact .inr (.inr ⟨m,hm,rfl⟩)
  ·exact .inr h1
 | halt h=>exact fun H=>H.elim
theorem zm{α β:Type}(s:Sem α)(f:α->Sem β):∀ {w:World} {K:β->World->Prop},
  wpE P S h B (s >>= f) w K<->wpE P S h B s w (fun a w'=>wpE P S h B (f a) w' K):=by
 show ∀ {w:World} {K:β->World->Prop},wpE P S h B (s.bind f) w K<->_;induction s with
 | pure a=>exact Iff.rfl
 | load m a k ih=>intro w K;simp only[Sem.bind,wpE,ih]
 | store m a v k ih=>intro w K;simp only[Sem.bind,wpE,ih]
 | new o k ih=>intro w K;simp only[Sem.bind,wpE,ih]
 | shape r k ih=>intro w K;simp only[Sem.bind,wpE,ih]
 | freeze a n k ih=>intro w K;simp only[Sem.bind,wpE,ih]
 | frozen a k ih=>intro w K;simp only[Sem.bind,wpE,ih]
 | getObj r k ih=>intro w K;simp only[Sem.bind,wpE]
 | setObj r o k ih=>intro w K;simp only[Sem.bind,wpE]
 | choose q k ih=>intro w K;simp only[Sem.bind,wpE,ih]
 | sys c k ih=>intro w K;simp only[Sem.bind,wpE]
 | program k ih=>intro w K;simp only[Sem.bind,wpE,ih]
 | mark m k ih=>intro w K;simp only[Sem.bind,wpE,ih]
 | halt h=>intro w K;simp only[Sem.bind,wpE]
theorem kX{α:Type}(s:Sem α):∀ {w:World} {K K':α->World->Prop},wpE P S h B s w K ->
  (∀a w,K a w->K' a w)->wpE P S h B s w K':=by
 induction s with
 | pure a=>exact fun H hk=>hk _ _ H
 | load m a k ih=>rintro w K K' ⟨h1,h2,v,h3,H⟩ hk;exact⟨h1,h2,v,h3,ih v H hk⟩
 | store m a v k ih=>rintro w K K' ⟨h1,h2,h3,h4,h5,h6,h7,h8,H⟩ hk;exact⟨h1,h2,h3,h4,h5,h6,h7,h8,ih H hk⟩
 | new o k ih=>exact fun H hk=>ih _ H hk
 | shape r k ih=>exact fun H hk=>ih _ H hk
 | freeze a n k ih=>exact fun H hk=>ih H hk
 | frozen a k ih=>exact fun H hk=>ih _ H hk
 | getObj r k ih=>exact fun H=>H.elim
 | setObj r o k ih=>exact fun H=>H.elim
 | choose q k ih=>
  intro w K K' H hk;by_cases hq:q.forced
  ·simp only[wpE,hq,if_true]at H ⊢;exact ih _ H hk
  ·simp only[wpE,hq,if_false,vK]at H ⊢;exact ih _ H hk
 | sys c k ih=>exact fun H=>H.elim
 | program k ih=>exact fun H hk=>ih _ H hk
 | mark m k ih=>rintro w K K' ⟨h1,H⟩ hk;exact⟨h1,ih H hk⟩
 | halt h=>exact fun H=>H.elim
theorem ED(f:Bool×Array Event->Event->Bool×Array Event)(hf:∀x e y,y∈(f x e).2->y∈x.2\/y=e) :
  ∀(l:List Event) (x:Bool×Array Event) (y:Event),y∈(l.foldl f x).2->y∈x.2\/y∈l
 | [],_,_,h=>.inl h
 | e::l,x,y,h=>by
  rcases ED f hf l (f x e) y h with h1 | h1
  ·rcases hf _ _ _ h1 with h2 | h2
   ·exact .inl h2
   ·exact .inr (h2▸List.mem_cons_self)
  ·exact .inr (List.mem_cons_of_mem _ h1)
variable {fn:FuncId}{es:Array Event}
theorem mem_seen{e:Event}(h:e∈seen P fn es):e∈es:=by
 dsimp only[seen]at h;rw[<-Array.foldl_toList]at h;rcases ED _ (fun x e y hy=>by
  split at hy
  ·exact .inl hy
  ·split at hy
   ·exact .inl hy
   ·rcases Array.mem_push.1 hy with h1 | h1
    ·exact .inl h1
    ·exact .inr h1) es.toList _ e h with h1 | h1
 ·simp at h1
 ·exact Array.mem_toList_iff.1 h1
variable {i id:Nat}{o:Oper}{h1 h2:Heap}{fr:Frame}{f:FuncId}{args:Array Value}
section steps
variable {Post:Frame -> List Frame -> Heap -> Prop}{b:Frame}{a:Act}{k:List Item}{cs:List Frame}{ops:Array Oper}
theorem Safe.skip(K:Safe P S Post (b.at a k) cs h):Safe P S Post (b.at a (.code .skip::k)) cs h:=
 .ym (fun w m=>by simp[stepG,stepG.exec,Frame.at,gor]) K
theorem Safe.label{l:Nat}(K:Safe P S Post (b.at a k) cs h):Safe P S Post (b.at a (.code (.label l)::k)) cs h:=
 .ym (fun w m=>by simp[stepG,stepG.exec,Frame.at,gor]) K
theorem Safe.inBlock(K:Safe P S Post (b.at a k) cs h):Safe P S Post (b.at a (.inBlock id::k)) cs h:=
 .ym (fun w m=>by simp[stepG,stepG.exec,Frame.at,gor]) K
theorem Safe.inScope{c:Code}(K:Safe P S Post (b.at a k) cs h):Safe P S Post (b.at a (.inScope c::k)) cs h:=
 .ym (fun w m=>by simp[stepG,stepG.exec,Frame.at,gor]) K
theorem Safe.seq{x y:Code}(K:Safe P S Post (b.at a (.code x::.code y::k)) cs h):Safe P S Post (b.at a (.code (.seq x y)::k)) cs h:=
 .ym (fun w m=>by simp[stepG,stepG.exec,Frame.at,gor]) K
theorem Safe.block{x:Code}(K:Safe P S Post (b.at a (.code x::.inBlock id::k)) cs h):Safe P S Post (b.at a (.code (.block id x)::k)) cs h:=
 .ym (fun w m=>by simp[stepG,stepG.exec,Frame.at,gor]) K
theorem Safe.scope{x:Code}(K:Safe P S Post (b.at a (.code x::.inScope x::k)) cs h):Safe P S Post (b.at a (.code (.scope x)::k)) cs h:=
 .ym (fun w m=>by simp[stepG,stepG.exec,Frame.at,gor]) K
theorem Safe.loop{x:Code}(K:Safe P S Post (b.at a (.code x::.inLoop x::k)) cs h):Safe P S Post (b.at a (.code (.loop x)::k)) cs h:=
 .ym (fun w m=>by simp[stepG,stepG.exec,Frame.at,gor]) K
theorem Safe.inLoop{x:Code}(K:Safe P S Post (b.at a (.code x::.inLoop x::k)) cs h):Safe P S Post (b.at a (.inLoop x::k)) cs h:=
 .ym (fun w m=>by simp[stepG,stepG.exec,Frame.at,gor]) K
theorem Safe.cond{c:Operand}{x y:Code}{t:Bool}(hc:a.eval c=.bool t)(K:Safe P S Post (b.at a (.code (if t then x else y)::k)) cs h) :
  Safe P S Post (b.at a (.code (.cond c x y)::k)) cs h:=
 .ym (fun w m=>by
  have:=Frame.eval_at b a (.code (.cond c x y)::k) c
  simp only[Frame.at]at this
  simp[stepG,stepG.exec,Frame.at,gor,this,hc]) K
theorem Safe.exit{k':List Item}(hk:exitTo id k=some k')(K:Safe P S Post (b.at a k') cs h):Safe P S Post (b.at a (.code (.exit id)::k)) cs h:=
 .ym (fun w m=>by simp[stepG,stepG.exec,Frame.at,gor,hk]) K
theorem Safe.region(K:Safe P S Post (b.at a (.inRegion ops (List.range ops.size)::k)) cs h):Safe P S Post (b.at a (.code (.region id ops false)::k)) cs h:=
 .ym (fun w m=>by simp[stepG,stepG.exec,Frame.at,gor]) K
theorem Safe.BP(K:Safe P S Post (b.at a k) cs h):Safe P S Post (b.at a (.inRegion ops []::k)) cs h:=
 .ym (fun w m=>by simp[stepG,stepG.exec,Frame.at,gor]) K
theorem Safe.ret(K:Safe P S Post { b.at a (.code .ret::k)with mode:=.returning } cs h):Safe P S Post (b.at a (.code .ret::k)) cs h:=
 .ym (fun w m=>by simp[stepG,stepG.exec,Frame.at,gor]) K
theorem Safe.zaL(K:Safe P S Post { b.at a []with mode:=.returning } cs h):Safe P S Post (b.at a []) cs h:=
 .ym (fun w m=>by simp[stepG,stepG.exec,Frame.at,gor]) K
theorem Kept.drew(H:Has w h):Kept S h h w { w with drawn:=w.drawn+1 }:=
 ⟨rfl,rfl,rfl,Nat.le_refl _,fun _ _ hb=>⟨rfl,hb⟩,H,fun _ _=>rfl⟩
theorem Safe.J6(K:∀t,Safe P S Post (b.at a (.inRegion ops (Region.schedule (P.follows .mixedOrders) ops t)::k)) cs h) :
  Safe P S Post (b.at a (.code (.region id ops true)::k)) cs h:=
 Safe.mk fun w m hw=>⟨b.at a (.inRegion ops (Region.schedule (P.follows .mixedOrders) ops (w.tape w.drawn (.order b.fn id)))::k),cs,{ w with drawn:=w.drawn+1 },#[],h,
  by simp[stepG,stepG.exec,Frame.at,gor,choose,Sem.run,Question.forced,Question.cut],.drew hw,by simp,K _⟩
theorem Safe.J7{rest:List Nat}(hi:((ops[i]?).map (Region.wanted · (yielded ops a.tmps))).getD false=false)
  (K:Safe P S Post (b.at (a.put ((ops[i]?).bind (·.dst)) undef) (.inRegion ops rest::k)) cs h):Safe P S Post (b.at a (.inRegion ops (i::rest)::k)) cs h:=by
 rw[<-Frame.finish_at]at K;refine .ym (fun w m=>?_) K;have h':=hi;simp only[Frame.at]at *;simp[stepG,stepG.exec,h',gor]
theorem stepG_op'{rest:List Nat}{m:Bool}(ho:ops[i]? = some o)(hw:Region.wanted o (yielded ops a.tmps)=true) :
  stepG P m (gor (b.at a (.inRegion ops (i::rest)::k)) cs) w=stepG.apply P true (b.at a (.inRegion ops (i::rest)::k)) cs none (execOp a.eval o) w:=by
 have he:=Frame.eval_at' b a (.inRegion ops (i::rest)::k);simp only[Frame.at]at he;simp[stepG,stepG.exec,stepG.oper,Frame.oper?,Frame.at,ho,hw,he,gor]
theorem Om{w w':World}(c:Bool)(hes:∀e∈es,e∈(#[]:Array Event)\/EvOk' S h w.heap.size w'.heap.size e) :
  ∀e∈seen P fn (if c then #[]else es),Ai S h w w' e:=by
 intro e he;have h1:=mem_seen he;cases c
 ·rcases hes e h1 with h2 | h2
  ·simp at h2
  ·exact h2
 ·simp at h1
theorem Safe.op{rest:List Nat}(ho:ops[i]? = some o)(hw:Region.wanted o (yielded ops a.tmps)=true)
  (H:∀w,Has w h->wpE P S h w.heap.size (execOp a.eval o) w (fun n w'=>∃v h',(n=.value v\/(n=.skip/\v=undef))/\Kept S h h' w w' /\
   Safe P S Post (b.at (a.put o.dst v) (.inRegion ops rest::k)) cs h')) :
  Safe P S Post (b.at a (.inRegion ops (i::rest)::k)) cs h:=by
 refine Safe.mk fun w m hh=>?_
 obtain⟨n,w',es,e1,⟨v,h',hn,hk,hs⟩,_,e3⟩:=Lu _ (H w hh) #[];have hfin:(b.at a (.inRegion ops (i::rest)::k)).finish v=b.at (a.put o.dst v) (.inRegion ops rest::k):=by
  rw[Frame.finish_at,ho];rfl
 refine⟨_,cs,w',seen P b.fn (if b.kind == .early then #[]else es),h',?_,hk,Om _ e3,hs⟩;rw[stepG_op' ho hw,<-hfin];rw[Sem.runT_eq]at e1;obtain⟨e1,e2⟩:=Prod.mk.inj e1;rcases hn with rfl | ⟨rfl,rfl⟩
 ·simp[stepG.apply,e1,e2,GStep.after,gor,Frame.at]
 ·simp[stepG.apply,e1,e2,GStep.after,gor,Frame.at]
def Leaves(P:Program)(S:Shared)(fr:Frame)(h:Heap)(v:Value):Prop:=
 fr.mode=.returning/\fr.defers=[]/\fr.kind=.normal/\∃fn,P.funcs[fr.fn]? = some fn /\
  ∀w,Has w h->wpE P S h w.heap.size (results fn fr.tmps) w (fun x w'=>x=v/\w'=w)
def Sub(L L':Heap):Prop:=∀b x,L b=some x->L' b=some x
theorem Sub.trans{A B C:Heap}(h:Sub A B)(k:Sub B C):Sub A C:=fun b x e=>k b x (h b x e)
def Inv(S:Shared)(h:Heap):Prop:=∀b,S b->h b≠none
theorem Inv.zac(H:Inv S h1)(hs:Sub h1 h2)(b:Nat)(hb:S b):h2 b=h1 b:=by
 cases h:h1 b with
 | none=>exact absurd h (H b hb)
 | some o=>exact hs b o h
def Up(S:Shared)(Post:Frame->List Frame->Heap->Prop):Prop:=∀fr cs h1 h2,Post fr cs h1->Sub h1 h2->(∀b,S b->h2 b=h1 b)->Post fr cs h2
theorem IL(hh:∀b,h b≠none->h2 b≠none){α:Type}(s:Sem α):∀ {w:World} {K:α->World->Prop},wpE P S h B s w K->wpE P S h2 B s w K:=by
 induction s with
 | pure a=>exact fun H=>H
 | load m a k ih=>rintro w K ⟨h1,h2,v,h3,H⟩;exact⟨h1,h2.imp (hh _) id,v,h3,ih v H⟩
 | store m a v k ih=>rintro w K ⟨h1,h2,h3,h4,h5,h6,h7,h8,H⟩;exact⟨h1,h2.imp (hh _) id,h3,h4,h5,h6,h7,h8,ih H⟩
 | new o k ih=>exact fun H=>ih _ H
 | shape r k ih=>exact fun H=>ih _ H
 | freeze a n k ih=>exact fun H=>ih H
 | frozen a k ih=>exact fun H=>ih _ H
 | getObj r k ih=>exact fun H=>H.elim
 | setObj r o k ih=>exact fun H=>H.elim
 | choose q k ih=>
  intro w K H;by_cases hq:q.forced
  ·simp only[wpE,hq,if_true]at H ⊢;exact ih _ H
  ·simp only[wpE,hq,if_false,vK]at H ⊢;exact ih _ H
 | sys c k ih=>exact fun H=>H.elim
 | program k ih=>exact fun H=>ih _ H
 | mark m k ih=>rintro w K ⟨h1,H⟩;exact⟨h1,ih H⟩
 | halt h=>exact fun H=>H.elim
theorem Sub.ne(H:Sub h1 h2)(b:Nat)(hb:h1 b≠none):h2 b≠none:=by
 cases h:h1 b with
 | none=>exact absurd h hb
 | some o=>rw[H b o h];simp
theorem Has.sub(H:Has w h2)(hs:Sub h1 h2):Has w h1:=fun b o hb=>H b o (hs b o hb)
theorem Leaves.mono(H:Leaves P S fr h v)(hs:Sub h h2):Leaves P S fr h2 v:=by
 obtain⟨h1,h2',h3,fn,h4,h5⟩:=H;exact⟨h1,h2',h3,fn,h4,fun w hw=>IL (fun b hb=>hs.ne b hb) _ (h5 w (hw.sub hs))⟩
def xQ(P:Program)(S:Shared)(f:FuncId)(R:Value->Heap->Prop)(cs:List Frame)(fr:Frame)(cs':List Frame)(h2:Heap):Prop:=
 cs'=cs/\fr.fn=f/\∃v h1,R v h1/\Sub h1 h2/\Inv S h1/\Leaves P S fr h2 v
theorem xQ.up{R:Value->Heap->Prop}{cs:List Frame}:Up S (xQ P S f R cs):=
 fun _ _ _ _ ⟨h1,h2,v,h3,h4,h5,h6,h7⟩ hs _=>⟨h1,h2,v,h3,h4,h5.trans hs,h6,h7.mono hs⟩
def wV(P:Program){α:Type}:Sem α->Option α
 | .pure a=>some a
 | .program k=>wV P (k P)
 | _=>none
theorem Qf{α β:Type}{s:Sem α}{f:α->Sem β}:∀ {x:α} {w:World} {es:Array Event},wV P s=some x->(s >>= f).runT P w es=(f x).runT P w es:=by
 show ∀ {x:α} {w:World} {es:Array Event},wV P s=some x->(s.bind f).runT P w es=(f x).runT P w es;induction s with
 | pure a=>intro x w es h;cases h;rfl
 | program k ih=>intro x w es h;exact ih P h
 | _=>intro x w es h;cases h
theorem RI{α β:Type}{s:Sem α}{f:α->Sem β}:∀ {x:α} {w:World} {K:β->World->Prop},wV P s=some x->wpE P S h B (f x) w K->wpE P S h B (s >>= f) w K:=by
 show ∀ {x:α} {w:World} {K:β->World->Prop},wV P s=some x->wpE P S h B (f x) w K->wpE P S h B (s.bind f) w K;induction s with
 | pure a=>intro x w K h k;cases h;exact k
 | program k ih=>intro x w K h k;exact ih P h k
 | _=>intro x w K h;cases h
def Bq(P:Program)(S:Shared)(f:FuncId)(args:Array Value)(h:Heap)(R:Value->Heap->Prop):Prop:=
 (∀(as:Array Value) (w:World),(callFunc f as).runT P w #[]=(.ok (.enter f as) w,#[]))/\∀cs,Safe P S (xQ P S f R cs) (Frame.enter P f args .normal) cs h
def zad(P:Program)(S:Shared)(f:FuncId)(args:Array Value)(h:Heap)(R:Value->Heap->Prop):Prop:=
 ∀w,Has w h->wpE P S h w.heap.size (callFunc f args) w fun n w'=>∃v h',n=.value v/\Inv S h'/\Kept S h h' w w'/\R v h'
def zb(P:Program)(S:Shared)(f:FuncId)(args:Array Value)(h:Heap)(R:Value->Heap->Prop):Prop:=
 Bq P S f args h R\/zad P S f args h R
theorem Bq.mono{R R':Value->Heap->Prop}(H:Bq P S f args h R)(K:∀v h',R v h'->R' v h'):Bq P S f args h R':=
 ⟨H.1,fun cs=>(H.2 cs).bind fun _ _ _ ⟨h1,h2,v,h3,hr,h4,h5,hl⟩=>.done ⟨h1,h2,v,h3,K _ _ hr,h4,h5,hl⟩⟩
theorem zb.mono{R R':Value->Heap->Prop}(H:zb P S f args h R)(K:∀v h',R v h'->R' v h'):zb P S f args h R':=
 H.imp (·.mono K) fun D w hw=>kX _ (D w hw) fun n w' ⟨v,h',e1,e2,e3,e4⟩=>⟨v,h',e1,e2,e3,K _ _ e4⟩
theorem zb.enters{R:Value->Heap->Prop}(H:zb P S f args h R)(hb:((P.funcs[f]?).any fun fn=>fn.body.isSome&&fn.name != "runtime.NumGoroutine")=true)(hw:Has w h):Bq P S f args h R:=by
 rcases H with H | H
 ·exact H
 ·have:=H w hw;cases hf:P.funcs[f]? with
  | none=>rw[hf]at hb;simp at hb
  | some fn=>
   rw[hf]at hb;simp only[Option.any_some,Bool.and_eq_true,bne_iff_ne,ne_eq]at hb;have e:fn.body≠none:=fun e=>by rw[e]at hb;simp at hb
   simp[callFunc,zm,program,wpE,hf,hb.2,e]at this;obtain⟨v,e1,_⟩:=(show wpE P S h w.heap.size (Sem.pure (Next.enter f args)) w _ from this);cases e1
theorem Leaves.step{fr c:Frame}{v:Value}(H:Leaves P S fr h v)(K:Safe P S Post (c.finish v) cs h):Safe P S Post fr (c::cs) h:=by
 obtain⟨hm,hd,hk,fn,hf,hr⟩:=H;refine Safe.mk fun w m hh=>?_
 obtain⟨n,w',es,e1,⟨rfl,rfl⟩,_,e3⟩:=Lu _ (hr w hh) #[];refine⟨c.finish n,cs,w',seen P fr.fn (if false then #[]else es),h,?_,.refl hh,Om false e3,K⟩;rw[Sem.runT_eq]at e1;obtain⟨e1,e2⟩:=Prod.mk.inj e1;simp[stepG,gor,hm,unwind,hd,hf,e1,e2,GStep.after,doReturn,hk]
theorem Safe.down(hp:Up S Post)(H:Safe P S Post fr cs h)(hs:Sub h h2)(hi:Inv S h):Safe P S Post fr cs h2:=
 H.less hs (fun b hb=>hi.zac hs b hb) (fun fr cs h1 h2 p q r=>hp fr cs h1 h2 p q r)
theorem Safe.SM{rest:List Nat}{R:Value->Heap->Prop}{L:Heap}(hp:Up S Post)(ho:ops[i]? = some o)
  (hw:Region.wanted o (yielded ops a.tmps)=true)(hx:∀w,(execOp a.eval o).runT P w #[]=(.ok (.enter f args) w,#[]))(hc:Bq P S f args h R)(ha:Apart h L)
  (K:∀v h',R v h'->Inv S h'->Apart h' L->Safe P S Post (b.at (a.put o.dst v) (.inRegion ops rest::k)) cs (plus h' L)) :
  Safe P S Post (b.at a (.inRegion ops (i::rest)::k)) cs (plus h L):=by
 have hfin:∀v,(b.at a (.inRegion ops (i::rest)::k)).finish v=b.at (a.put o.dst v) (.inRegion ops rest::k):=by
  intro v;rw[Frame.finish_at,ho];rfl
 refine .ym (fr':=Frame.enter P f args .normal) (cs':=b.at a (.inRegion ops (i::rest)::k)::cs) (fun w m=>?_) ?_
 ·have e1:=hx w;rw[Sem.runT_eq]at e1;obtain⟨e1,e2⟩:=Prod.mk.inj e1;rw[stepG_op' ho hw];simp[stepG.apply,e1,e2,GStep.after,gor,Frame.at,seen]
 ·refine(hc.2 (b.at a (.inRegion ops (i::rest)::k)::cs)).more L ha ?_;rintro fr cs' h2 ⟨rfl,rfl,v,h1,hr,hs,hi,hl⟩ ha2;have ha1:Apart h1 L:=fun x hx=>by
   cases hh:h1 x with
   | none=>rfl
   | some o=>have:=hs x o hh;rw[ha2 x hx]at this;cases this
  have hs2:Sub (plus h1 L) (plus h2 L):=by
   intro x o hx;unfold plus at hx ⊢;cases hh:h1 x with
   | some u=>rw[hh]at hx;rw[hs x u hh];exact hx
   | none=>
    rw[hh]at hx;have:h2 x=none:=ha2 x (by simp only at hx;rw[hx];simp);rw[this];exact hx
  refine(hl.mono (h2:=plus h2 L) (fun x o hx=>by simp[plus,hx])).step ?_;rw[hfin];exact(K v h1 hr hi ha1).down hp hs2 (fun x hx hn=>hi x hx (ye.1 hn).1)
end steps
end Go.Eng
namespace Go.Eng
open Go
def zj(h:Heap)(a:Addr):Option Value:=
 match h a.block with
 | some (.cells c _ _)=>if a.spot.isSome then none else c[a.off]?
 | _=>none
def yz(ps:List (Addr×Value))(h:Heap):Prop:=∀p∈ps,zj h p.1=some p.2
def kG(o:Oper)(ρ:Operand->Value):Option Nat:=match o.op with | .store _ x _=>(match ρ x with | .pointer (some a)=>some a.block | _=>none) | _=>none
def CU(wb:Option Nat)(L L':Heap):Prop:=∀b x,wb≠some b->L b=some x->L' b=some x
theorem CU.refl(wb:Option Nat)(L:Heap):CU wb L L:=fun _ _ _ h=>h
structure Ok(S:Shared)(h L:Heap):Prop where
 apart:Apart h L
 inv:Inv S h
def Same(lb:Option Nat)(L L':Heap):Prop:=∀b x,lb=some b->L b=some x->L' b=some x
theorem Same.refl(lb:Option Nat)(L:Heap):Same lb L L:=fun _ _ _ h=>h
variable {lb:Option Nat}
theorem Same.trans{A B C:Heap}(h:Same lb A B)(k:Same lb B C):Same lb A C:=fun b x e f=>k b x e (h b x e f)
variable {L L':Heap}
theorem CU.same{wb lb:Option Nat}(h:CU wb L L')(hn:∀b,lb=some b->wb≠some b):Same lb L L':=fun b x e f=>h b x (hn b e) f
def AE(o:Oper):Option Tmp:=match o.op with | .store _ (.tmp t) _=>some t | _=>none
theorem IN(o:Oper)(a:Act)(dst:Option Tmp)(v:Value)(h:∀d,dst=some d->AE o≠some d):kG o (a.put dst v).eval=kG o a.eval:=by
 unfold kG AE at *;split
 ·rename_i ty x y he;rw[he]at h;rw[Act.eval_put];intro d hd hx;subst hx;exact h d hd rfl
 ·rfl
inductive OpW (P:Program) (S:Shared) (o:Oper) (ρ:Operand->Value) (L h:Heap) (K:Value->Heap->Heap->Prop):Prop
 | step (H:∀w,Has w (plus h L)->wpE P S (plus h L) w.heap.size (execOp ρ o) w (fun n w'=>∃v L' h',(n=.value v\/(n=.skip/\v=undef))/\Ok S h' L' /\
   Kept S (plus h L) (plus h' L') w w'/\CU (kG o ρ) L L'/\K v L' h')):OpW P S o ρ L h K
 | call (f:FuncId) (args:Array Value) (R:Value->Heap->Prop) (hx:∀w,(execOp ρ o).runT P w #[]=(.ok (.enter f args) w,#[])) (hc:Bq P S f args h R)
   (H:∀v h',R v h'->Ok S h' L->K v L h'):OpW P S o ρ L h K
variable {P:Program}{S:Shared}{o:Oper}{ρ:Operand->Value}{h:Heap}
theorem OpW.mono{K K':Value->Heap->Heap->Prop}(H:OpW P S o ρ L h K)
  (hk:∀v L' h',Ok S h' L'->CU (kG o ρ) L L'->K v L' h'->K' v L' h'):OpW P S o ρ L h K':=by
 cases H with
 | step H=>exact .step fun w hw=>kX _ (H w hw) fun n w' ⟨v,L',h',h1,h2,h3,h4,h5⟩=>⟨v,L',h',h1,h2,h3,h4,hk _ _ _ h2 h4 h5⟩
 | call f args R hx hc H=>exact .call f args R hx hc fun v h' hr ha=>hk _ _ _ ha (.refl _ _) (H v h' hr ha)
theorem OpW.congr{ρ ρ':Operand->Value}{K:Value->Heap->Heap->Prop}(H:OpW P S o ρ L h K)
  (he:execOp ρ' o=execOp ρ o)(hb:kG o ρ'=kG o ρ):OpW P S o ρ' L h K:=by
 cases H with
 | step H=>exact .step (by rw[he,hb];exact H)
 | call f args R hx hc H=>exact .call f args R (by rw[he];exact hx) hc H
variable {i:Nat}{a:Act}{ps ps':List (Nat×Addr×Value)}{oj:Oper}{v:Value}{qs:List (Addr×Value)}
section
variable {ops:Array Oper}{Q:Act -> Heap -> Heap -> Prop}
def kY(P:Program)(S:Shared)(ops:Array Oper)(i:Nat)(ps:List (Addr×Value))(K:Act->Heap->Heap->Prop)(a:Act)(L h:Heap):Prop:=
 match ops[i]? with
 | none=>K a L h
 | some o=>if Region.wanted o (yielded ops a.tmps)then OpW P S o a.eval L h (fun v L' h'=>yz ps h'/\K (a.put o.dst v) L' h')else K (a.put o.dst undef) L h
theorem MA{ps ps':List (Addr×Value)}{K K':Act->Heap->Heap->Prop}(H:kY P S ops i ps K a L h)
  (hp:∀h,yz ps h->yz ps' h)(ha:Ok S h L)(hps:yz ps' h)
  (hk:∀a L' h',Ok S h' L'->yz ps' h'->K a L' h'->K' a L' h'):kY P S ops i ps' K' a L h:=by
 unfold kY at *;cases ho:ops[i]? with
 | none=>simp only[ho]at H hk ⊢;exact hk _ _ _ ha hps H
 | some o=>
  simp only[ho]at H hk ⊢;by_cases hw:Region.wanted o (yielded ops a.tmps)=true
  ·simp only[hw,if_true]at H ⊢;exact H.mono fun v L' h' h1 h2 ⟨h3,h4⟩=>⟨hp _ h3,hk _ _ _ h1 (hp _ h3) h4⟩
  ·simp only[hw,if_false,vK]at H ⊢;exact hk _ _ _ ha hps H
def waits(o:Oper)(i:Nat):Bool:=o.after.any fun e=>Region.binds .any e&&e.on==i
def xe(ops:Array Oper)(i:Nat)(ps:List (Nat×Addr×Value)):List (Nat×Addr×Value):=
 match ops[i]? with
 | none=>ps
 | some o=>ps.filter fun t => !waits o t.1
def wR(P:Program)(S:Shared)(ops:Array Oper)(Q:Act->Heap->Heap->Prop):Nat->List (Nat×Addr×Value)->Array Bool->Act->Heap->Heap->Prop
 | 0,_,listed,a,L,h=>Region.ready .any ops listed=[]/\Q a L h
 | fuel+1,ps,listed,a,L,h=>
  (Region.ready .any ops listed=[]->Q a L h) /\
  ∀i∈Region.ready .any ops listed,kY P S ops i ((xe ops i ps).map (·.2)) (wR P S ops Q fuel (xe ops i ps) (listed.setIfInBounds i true)) a L h
def qM(P:Program)(S:Shared)(ops:Array Oper)(Q:Act->Heap->Heap->Prop):List Nat->Act->Heap->Heap->Prop
 | [],a,L,h=>Q a L h
 | i::rest,a,L,h=>kY P S ops i [] (qM P S ops Q rest) a L h
theorem yz.nil(h:Heap):yz [] h:=fun p hp=>by cases hp
theorem jX{q:Nat×Addr×Value}(h:q∈xe ops i ps):q∈ps:=by
 unfold xe at h;split at h
 ·exact h
 ·exact(List.mem_filter.1 h).1
theorem J8(hs:∀q∈ps',q∈ps):∀q∈xe ops i ps',q∈xe ops i ps:=by
 intro q h;unfold xe at *;split at h
 ·exact hs q h
 ·obtain⟨h1,h2⟩:=List.mem_filter.1 h;exact List.mem_filter.2 ⟨hs q h1,h2⟩
theorem RJ{i j:Nat}(hj:ops[j]? = some oj)(hn:∀e∈oj.after,Region.binds .any e=true->e.on≠i)(qs:List (Addr×Value))(ps:List (Nat×Addr×Value)) :
  xe ops j (qs.map (fun q=>(i,q))++ps)=qs.map (fun q=>(i,q))++xe ops j ps:=by
 have hw:waits oj i=false:=by
  cases hw:waits oj i with
  | false=>rfl
  | true=>
   obtain⟨e,he,hb⟩:=Array.any_eq_true'.1 hw;simp only[Bool.and_eq_true,beq_iff_eq]at hb;exact absurd hb.2 (hn e he hb.1)
 unfold xe;simp only[hj,List.filter_append];congr 1;refine List.filter_eq_self.2 fun t ht=>?_
 obtain⟨q,_,rfl⟩:=List.mem_map.1 ht;simp[hw]
theorem yz.sub(H:yz (ps.map (·.2)) h)(hs:∀q∈ps',q∈ps):yz (ps'.map (·.2)) h:=fun p hp=>by
 obtain⟨q,hq,rfl⟩:=List.mem_map.1 hp;exact H _ (List.mem_map.2 ⟨q,hs q hq,rfl⟩)
theorem Qg:∀(fuel:Nat) (ps ps':List (Nat×Addr×Value)) (listed:Array Bool) (a:Act) (L h:Heap),Ok S h L->(∀q∈ps',q∈ps)->yz (ps'.map (·.2)) h ->
  wR P S ops Q fuel ps listed a L h->wR P S ops Q fuel ps' listed a L h:=by
 intro fuel;induction fuel with
 | zero=>intro ps ps' listed a L h _ _ _ H;exact H
 | succ fuel ih=>
  intro ps ps' listed a L h ha hp hps H;exact⟨H.1,fun i hi=>MA (H.2 i hi) (fun h hh=>hh.sub (J8 hp)) ha (hps.sub fun q hq=>jX hq) fun a L' h' ha' hps' hk=>ih _ _ _ a L' h' ha' (J8 hp) hps' hk⟩
theorem J9:∀(fuel t:Nat) (ps:List (Nat×Addr×Value)) (listed:Array Bool) (a:Act) (L h:Heap),Ok S h L->wR P S ops Q fuel ps listed a L h ->
  qM P S ops Q (Region.linearise.go .any ops fuel t listed []) a L h:=by
 intro fuel;induction fuel with
 | zero=>intro t ps listed a L h _ H;simpa[Region.linearise.go,qM]using H.2
 | succ fuel ih=>
  intro t ps listed a L h ha H;obtain⟨h₀,h₁⟩:=H;simp only[Region.linearise.go];change qM P S ops Q (match(Region.ready .any ops listed)[t%(Region.ready .any ops listed).length]? with
   | some i=>Region.linearise.go .any ops fuel (t/(Region.ready .any ops listed).length) (listed.setIfInBounds i true) [i]
   | none=>[].reverse) a L h
  cases hi:(Region.ready .any ops listed)[t%(Region.ready .any ops listed).length]? with
  | none=>
   have hnil:Region.ready .any ops listed=[]:=by
    cases hr:Region.ready .any ops listed with
    | nil=>rfl
    | cons x xs=>
     rw[hr]at hi;have hlt:t%(x::xs).length<(x::xs).length:=Nat.mod_lt _ (by simp);simp at hi;simp at hlt;omega
   simpa[qM]using h₀ hnil
  | some i=>
   simp only[];rw[linearise_go_acc,List.reverse_singleton,List.singleton_append];exact MA (h₁ i (List.mem_of_getElem? hi)) (fun h _=>.nil h) ha (.nil h) fun a L' h' ha' _ hk=>ih _ _ _ a L' h' ha' hk
def Yl(P:Program)(S:Shared)(ops:Array Oper)(lb:Option Nat)(ps:List (Addr×Value))(o:Oper)(v:Value)(a:Act)(L:Heap):Prop:=
 if Region.wanted o (yielded ops a.tmps)then
  ∀L2 h w,Same lb L L2->yz ps h->Has w (plus h L2)->Apart h L2->wpE P S (plus h L2) w.heap.size (execOp a.eval o) w (fun n w'=>n=.value v/\w'=w)
 else v=undef
theorem Yl.kY{ps qs:List (Addr×Value)}{K:Act->Heap->Heap->Prop}(ho:ops[i]? = some o)
  (H:Yl P S ops lb ps o v a L)(hp:yz ps h)(hq:yz qs h)(ha:Ok S h L)(hk:K (a.put o.dst v) L h):kY P S ops i qs K a L h:=by
 unfold Eng.kY;simp only[ho];unfold Yl at H;by_cases hw:Region.wanted o (yielded ops a.tmps)=true
 ·simp only[hw,if_true]at H ⊢;refine .step fun w hh=>kX _ (H L h w (.refl _ _) hp hh ha.apart) ?_
  rintro n w' ⟨rfl,rfl⟩;exact⟨v,L,h,.inl rfl,ha,.refl hh,.refl _ _,hq,hk⟩
 ·simp only[hw,if_false,vK]at H ⊢;subst H;exact hk
theorem Yl.keep{ps:List (Addr×Value)}{v u:Value}(H:Yl P S ops lb ps o v a L)(hl:Same lb L L')
  (hs:∀cs b,o.op ≠ .select cs b)(hd:∀d,oj.dst=some d->d∉o.looksAt ops):Yl P S ops lb ps o v (a.put oj.dst u) L':=by
 unfold Yl at *;rw[wanted_put (ops:=ops) o a oj.dst u hd,execOp_put (ops:=ops) o hs a oj.dst u hd];by_cases hw:Region.wanted o (yielded ops a.tmps)=true
 ·simp only[hw,if_true]at H ⊢;exact fun L2 h w h1 h2 h3 h4=>H L2 h w (hl.trans h1) h2 h3 h4
 ·simp only[hw,if_false,vK]at H ⊢;exact H
def qx(ops:Array Oper)(listed:Array Bool)(a:Act)(lb:Option Nat)(oj:Oper):Prop:=
 ∀b,lb=some b->kG oj a.eval≠some b/\∀k ok,ops[k]? = some ok->listed.getD k true=false->∀d,ok.dst=some d->AE oj≠some d
theorem JA{oi:Oper}(hi:ops[i]? = some oi)(hsel:∀(j:Nat) (o:Oper) cs b,ops[j]? = some o->o.op ≠ .select cs b) :
  ∀(fuel:Nat) (ps:List (Nat×Addr×Value)) (listed:Array Bool) (a:Act) (L h:Heap),Ok S h L->yz (ps.map (·.2)) h->yz qs h ->
   (∀j oj,ops[j]? = some oj->j≠i->listed.getD j true=false->(∀e∈oj.after,Region.binds .any e=true->e.on≠i)->oi.apart ops oj=true/\qx ops listed a lb oj) ->
   i∈Region.ready .any ops listed->Yl P S ops lb qs oi v a L ->
   wR P S ops Q fuel (qs.map (fun q=>(i,q))++ps) (listed.setIfInBounds i true) (a.put oi.dst v) L h->wR P S ops Q (fuel+1) ps listed a L h:=by
 intro fuel;induction fuel with
 | zero=>
  intro ps listed a L h ha hp hq _ hr hy H;refine⟨fun h=>(by rw[h]at hr;cases hr),fun j hj=>?_⟩;by_cases hji:j=i
  ·subst hji;exact hy.kY hi hq (hp.sub fun q hq=>jX hq) ha H
  ·have:=ready_mono hj hji;rw[H.1]at this;cases this
 | succ fuel ih=>
  intro ps listed a L h ha hp hq hfree hr hy H;refine⟨fun h=>(by rw[h]at hr;cases hr),fun j hj=>?_⟩;by_cases hji:j=i
  ·subst hji;exact hy.kY hi hq (hp.sub fun q hq=>jX hq) ha (Qg _ _ _ _ _ _ _ ha (fun q hq=>List.mem_append_right _ (jX hq)) (hp.sub fun q hq=>jX hq) H)
  ·have h1:=H.2 j (ready_mono hj hji);obtain⟨hjun,oj,hoj,hall⟩:=mem_ready.1 hj;have hnot:∀e∈oj.after,Region.binds .any e=true->e.on≠i:=fun e he hb heq=>by
    have h1:=hall e he hb;have h0:=(mem_ready.1 hr).1;rw[heq]at h1;rcases Nat.lt_or_ge i listed.size with h' | h'
    ·simp[h']at h0 h1;rw[h0]at h1;cases h1
    ·simp[Array.getElem?_eq_none h']at h1
   rw[RJ hoj hnot]at h1;have hmap:(qs.map (fun q=>(i,q))++xe ops j ps).map (·.2)=qs++(xe ops j ps).map (·.2):=by simp[Function.comp_def]
   rw[hmap]at h1;obtain⟨hap,hst⟩:=hfree j oj hoj hji hjun hnot;obtain⟨ap1,ap2,ap3⟩:=Oper.apart_spec hap;have hiun:listed.getD i true=false:=(mem_ready.1 hr).1;have wbj:lb.isSome->kG oj (a.put oi.dst v).eval=kG oj a.eval:=fun hl=>by
    obtain⟨b,hb⟩:=Option.isSome_iff_exists.1 hl;exact IN oj a oi.dst v fun d hd=>(hst b hb).2 i oi hi hiun d hd
   have hfree':∀u k ok,ops[k]? = some ok->k≠i->(listed.setIfInBounds j true).getD k true=false ->
     (∀e∈ok.after,Region.binds .any e=true->e.on≠i)->oi.apart ops ok=true/\qx ops (listed.setIfInBounds j true) (a.put oj.dst u) lb ok:=fun u k ok hk hki hun hno=>by
    have un:∀k,(listed.setIfInBounds j true).getD k true=false->listed.getD k true=false:=fun k hun=>by
     by_cases hjk:j=k
     ·subst hjk;exact hjun
     ·rw[getD_set_ne true hjk]at hun;exact hun
    obtain⟨x1,x2⟩:=hfree k ok hk hki (un k hun) hno;refine⟨x1,fun b hb=>?_⟩;obtain⟨y1,y2⟩:=x2 b hb;refine⟨?_,fun m om hm hmun=>y2 m om hm (un m hmun)⟩;rw[IN ok a oj.dst u fun d hd=>y2 j oj hoj hjun d hd];exact y1
   have fin:∀u L' h',Ok S h' L'->yz (qs++(xe ops j ps).map (·.2)) h'->Same lb L L' ->
     wR P S ops Q fuel (qs.map (fun q=>(i,q))++xe ops j ps) ((listed.setIfInBounds i true).setIfInBounds j true) ((a.put oi.dst v).put oj.dst u) L' h' ->
     wR P S ops Q (fuel+1) (xe ops j ps) (listed.setIfInBounds j true) (a.put oj.dst u) L' h':=by
    intro u L' h' ha' hps hl K;refine ih (xe ops j ps) (listed.setIfInBounds j true) (a.put oj.dst u) L' h' ha' (fun p hp=>hps p (List.mem_append_right _ hp)) (fun p hp=>hps p (List.mem_append_left _ hp)) (hfree' u)
     (ready_mono hr (Ne.symm hji)) (hy.keep hl (fun cs b=>hsel i oi cs b hi) ap3) ?_
    rw[Array.setIfInBounds_comm _ _ hji,<-Act.put_comm a v u ap2];exact K
   unfold kY at h1 ⊢;simp only[hoj]at h1 ⊢;rw[wanted_put (ops:=ops) oj a oi.dst v ap1]at h1;by_cases hw:Region.wanted oj (yielded ops a.tmps)=true
   ·simp only[hw,if_true]at h1 ⊢;have hex:=execOp_put (ops:=ops) oj (fun cs b=>hsel j oj cs b hoj) a oi.dst v ap1;have hwb:kG oj a.eval=kG oj (a.put oi.dst v).eval:=by
     refine(IN oj a oi.dst v fun d hd he=>?_).symm;refine ap1 d hd ?_;unfold AE at he;unfold Oper.looksAt;split at he
     ·rename_i ty t y hop;cases he
      rw[hop];simp[Op.operands]
     ·cases he
    refine(h1.congr hex.symm hwb).mono fun u L' h' ha' hl ⟨hps,K⟩=>
     ⟨fun p hp=>hps p (List.mem_append_right _ hp),fin u L' h' ha' hps (hl.same fun b hb=>(hst b hb).1) K⟩
   ·simp only[hw,if_false,vK]at h1 ⊢;exact fin undef L h ha (fun p hp'=>(List.mem_append.1 hp').elim (hq p) ((hp.sub fun q hq=>jX hq) p)) (.refl _ _) h1
theorem SN{fuel:Nat}{listed:Array Bool}(hr:Region.ready .any ops listed=[i])
  (H:kY P S ops i ((xe ops i ps).map (·.2)) (wR P S ops Q fuel (xe ops i ps) (listed.setIfInBounds i true)) a L h):wR P S ops Q (fuel+1) ps listed a L h:=
 ⟨fun h0=>(by rw[hr]at h0;cases h0),fun j hj=>(by rw[hr]at hj;cases List.mem_singleton.1 hj;exact H)⟩
theorem MB{Post:Frame->List Frame->Heap->Prop}{b:Frame}{k:List Item}{cs:List Frame}(hp:Up S Post) :
  ∀(l:List Nat) (a:Act) (L h:Heap),Ok S h L->qM P S ops Q l a L h->(∀a' L' h',Ok S h' L'->Q a' L' h'->Safe P S Post (b.at a' k) cs (plus h' L')) ->
   Safe P S Post (b.at a (.inRegion ops l::k)) cs (plus h L):=by
 intro l;induction l with
 | nil=>intro a L h ha H K;exact .BP (K a L h ha H)
 | cons i rest ih=>
  intro a L h ha H K;simp only[qM,kY]at H;cases ho:ops[i]? with
  | none=>
   simp only[ho]at H;refine .J7 (by simp[ho]) ?_;simp only[ho,Option.bind_none,Act.put];exact ih a L h ha H K
  | some o=>
   simp only[ho]at H;by_cases hw:Region.wanted o (yielded ops a.tmps)=true
   ·simp only[hw,if_true]at H;cases H with
    | step H=>exact .op ho hw fun w hh=>kX _ (H w hh) fun n w' ⟨v,L',h',h1,h2,h3,_,_,h5⟩=>⟨v,plus h' L',h1,h3,ih _ L' h' h2 h5 K⟩
    | call f args R hx hc H=>exact .SM hp ho hw hx hc ha.apart fun v h' hr hi hap=>ih _ L h' ⟨hap,hi⟩ (H v h' hr ⟨hap,hi⟩).2 K
   ·simp only[hw,if_false,vK]at H;refine .J7 (by simp[ho];simpa using hw) ?_;simp only[ho,Option.bind_some];exact ih _ L h ha H K
end
end Go.Eng
namespace Go.Eng
open Go
inductive Sh where
 | int (k:IntKind) | bool | slice | ptr | addr | iface | fnv | str | any
 deriving DecidableEq,Inhabited
inductive Cst where
 | int (k:IntKind) (n:Int) | bool (b:Bool) | nilSl | nilPtr | nilIf | nilFn
 deriving DecidableEq,Inhabited
def Cst.val:Cst->Value
 | .int k n=>.int k n
 | .bool b=>.bool b
 | .nilSl=>.slice none 0 0
 | .nilPtr=>.pointer none
 | .nilIf=>.nilIface
 | .nilFn=>.nilFunc
def Cst.of:Value->Option Cst
 | .int k n=>some (.int k n)
 | .bool b=>some (.bool b)
 | .slice none 0 0=>some .nilSl
 | .pointer none=>some .nilPtr
 | .nilIface=>some .nilIf
 | .nilFunc=>some .nilFn
 | _=>none
def Cst.sh:Cst->Sh
 | .int k _=>.int k
 | .bool _=>.bool
 | .nilSl=>.slice
 | .nilPtr=>.ptr
 | .nilIf=>.iface
 | .nilFn=>.fnv
inductive Ex where
 | var (s:Sh) (i:Nat)
 | cst (c:Cst)
 | glob (g:Nat)
 | loc (j off:Nat)
 | ar (op:BinOp) (k:IntKind) (a b:Ex)
 | cm (op:BinOp) (a b:Ex)
 | bq (a b:Ex)
 | sq (a b:Ex)
 | nt (a:Ex)
 | an (a b:Ex)
 | it (c a b:Ex)
 | cv (k:IntKind) (a:Ex)
 | mn (a b:Ex)
 | mx (a b:Ex)
 | ln (a:Ex)
 | cp (a:Ex)
 | sub (sz:Nat) (s lo hi m:Ex)
 | sar (n sz:Nat) (p lo hi m:Ex)
 | nz (a:Ex)
 | fld (p:Ex) (off:Nat)
 | ix (sz:Nat) (s i:Ex)
 | ia (sz:Nat) (p i:Ex)
 | fn (f:FuncId) (first cap:Ex)
 | ifc (t:TypeId) (a:Ex)
 | ag (l:Ex)
 | nn (a:Ex)
 | nl
 | cs (a b:Ex)
 deriving Inhabited
inductive Tok where
 | n (i:Nat) | s (a:Sh) | c (a:Cst) | k (a:IntKind) | o (a:BinOp)
 deriving DecidableEq
def Ex.yB:Ex->List Tok->List Tok
 | .var s i,acc=>.n 0::.s s::.n i::acc
 | .cst c,acc=>.n 1::.c c::acc
 | .glob g,acc=>.n 2::.n g::acc
 | .loc j off,acc=>.n 3::.n j::.n off::acc
 | .ar op k a b,acc=>.n 4::.o op::.k k::a.yB (b.yB acc)
 | .cm op a b,acc=>.n 5::.o op::a.yB (b.yB acc)
 | .bq a b,acc=>.n 6::a.yB (b.yB acc)
 | .sq a b,acc=>.n 7::a.yB (b.yB acc)
 | .nt a,acc=>.n 8::a.yB acc
 | .an a b,acc=>.n 9::a.yB (b.yB acc)
 | .it c a b,acc=>.n 10::c.yB (a.yB (b.yB acc))
 | .cv k a,acc=>.n 11::.k k::a.yB acc
 | .mn a b,acc=>.n 12::a.yB (b.yB acc)
 | .mx a b,acc=>.n 13::a.yB (b.yB acc)
 | .ln a,acc=>.n 14::a.yB acc
 | .cp a,acc=>.n 15::a.yB acc
 | .sub sz s lo hi m,acc=>.n 16::.n sz::s.yB (lo.yB (hi.yB (m.yB acc)))
 | .sar n sz p lo hi m,acc=>.n 17::.n n::.n sz::p.yB (lo.yB (hi.yB (m.yB acc)))
 | .nz a,acc=>.n 18::a.yB acc
 | .fld p off,acc=>.n 19::p.yB (.n off::acc)
 | .ix sz s i,acc=>.n 20::.n sz::s.yB (i.yB acc)
 | .ia sz p i,acc=>.n 21::.n sz::p.yB (i.yB acc)
 | .fn f first cap,acc=>.n 22::.n f::first.yB (cap.yB acc)
 | .ifc t a,acc=>.n 23::.n t::a.yB acc
 | .ag l,acc=>.n 24::l.yB acc
 | .nn a,acc=>.n 25::a.yB acc
 | .nl,acc=>.n 26::acc
 | .cs a b,acc=>.n 27::a.yB (b.yB acc)
theorem Ex.Ve(a:Ex):∀(b:Ex) (l m:List Tok),a.yB l=b.yB m->a=b/\l=m:=by
 induction a <;> intro b l m h <;> cases b <;> first
  | exact absurd (List.cons.inj h).1 (by intro e;injection e with e;exact absurd e (by decide))
  | (simp only[Ex.yB,List.cons.injEq,Tok.n.injEq,Tok.s.injEq,Tok.c.injEq,Tok.k.injEq,Tok.o.injEq,true_and]at h;grind)
instance:DecidableEq Ex:=fun a b=>if h:a.yB []=b.yB []then .isTrue (Ex.Ve a b [] [] h).1 else .isFalse fun e=>h (by rw[e])
def toInt:Value->Int | .int _ n=>n | _=>0
def toBool:Value->Bool | .bool b=>b | _=>false
def kZ:Value->Option Addr | .pointer a=>a | _=>none
def xz(v:Value):Addr:=(kZ v).getD default
def slA:Value->Option Addr | .slice a _ _=>a | _=>none
def slL:Value->Nat | .slice _ l _=>l | _=>0
def slC:Value->Nat | .slice _ _ c=>c | _=>0
def xS:Value->Array Value | .tuple vs=>vs | _=>#[]
def kv:Value->Value | .iface t v=>.iface t v | _=>.nilIface
def Aj:Value->Value | .func f a b=>.func f a b | _=>.nilFunc
def CV:Value->ByteArray | .string s=>s | _=>.empty
def RK(v:Value):List UInt8:=(CV v).toList
def strOf(ys:List Int):ByteArray:=ys.foldl (fun s n=>s.push (UInt8.ofNat n.toNat)) .empty
def qN(d:Nat):Value->Nat | .int _ n=>n.toNat | _=>d
def coerce:Sh->Value->Value
 | .int k,v=>.int k (toInt v)
 | .bool,v=>.bool (toBool v)
 | .slice,v=>.slice (slA v) (slL v) (slC v)
 | .ptr,v=>.pointer (kZ v)
 | .addr,v=>.pointer (some (xz v))
 | .iface,v=>kv v
 | .fnv,v=>Aj v
 | .str,v=>.string (CV v)
 | .any,v=>v
def x7:Value->Bool
 | .pointer none | .nilIface | .nilFunc | .slice none _ _=>true
 | _=>false
def arith(op:BinOp)(k:IntKind)(x y:Int):Int:=
 match op with
 | .add=>k.wrap (x+y)
 | .sub=>k.wrap (x-y)
 | .mul=>k.wrap (x*y)
 | .quo=>k.wrap (x.tdiv y)
 | .rem=>x.tmod y
 | .shl=>k.wrap (x*2^(min y.toNat k.bits))
 | .shr=>x.fdiv (2^(min y.toNat k.bits))
 | op=>Go.bits op k x y
def z9(op:BinOp)(x y:Int):Bool:=
 match op with
 | .eql=>x==y
 | .neq=>x != y
 | .lss=>x<y
 | .leq=>x<=y
 | .gtr=>x>y
 | _=>x>=y
def qa(sz:Nat)(a:Option Addr)(L H M:Nat):Value:=.slice (if M=L then a else a.map (·.add (L*sz))) (H-L) (M-L)
section
variable (env:List Value)(nums:List Nat)
def Ex.ev:Ex->Value
 | .var s i=>coerce s (env.getD i undef)
 | .cst c=>c.val
 | .glob g=>.pointer (some ⟨g,0,none⟩)
 | .loc j off=>.pointer (some ⟨nums.getD j 0,off,none⟩)
 | .ar op k a b=>.int k (arith op k (toInt a.ev) (toInt b.ev))
 | .cm op a b=>.bool (z9 op (toInt a.ev) (toInt b.ev))
 | .bq a b=>.bool (toBool a.ev==toBool b.ev)
 | .sq a b=>.bool (RK a.ev==RK b.ev)
 | .nt a=>.bool (!toBool a.ev)
 | .an a b=>.bool (toBool a.ev&&toBool b.ev)
 | .it c a b=>if toBool c.ev=true then a.ev else b.ev
 | .cv k a=>.int k (k.wrap (toInt a.ev))
 | .mn a b=>if toInt b.ev<toInt a.ev then b.ev else a.ev
 | .mx a b=>if toInt b.ev>toInt a.ev then b.ev else a.ev
 | .ln a=>.int .i64 (slL a.ev)
 | .cp a=>.int .i64 (slC a.ev)
 | .sub sz s lo hi m=>qa sz (slA s.ev) (qN 0 lo.ev) (qN (slL s.ev) hi.ev) (qN (slC s.ev) m.ev)
 | .sar n sz p lo hi m=>qa sz (some (xz p.ev)) (qN 0 lo.ev) (qN n hi.ev) (qN n m.ev)
 | .nz a=>.pointer (some (xz a.ev))
 | .fld p off=>.pointer (some ((xz p.ev).add off))
 | .ix sz s i=>.pointer (some (((slA s.ev).getD default).add ((toInt i.ev).toNat*sz)))
 | .ia sz p i=>.pointer (some ((xz p.ev).add ((toInt i.ev).toNat*sz)))
 | .fn f a b=>.func (.func f) (xS a.ev) (xS b.ev)
 | .ifc t a=>.iface t a.ev
 | .ag l=>.agg (xS l.ev)
 | .nn a=>.bool (x7 a.ev)
 | .nl=>.tuple #[]
 | .cs a b=>.tuple (#[a.ev]++xS b.ev)
end
def Ex.sh:Ex->Option Sh
 | .var s _=>some s
 | .cst c=>some c.sh
 | .glob _ | .loc _ _ | .nz _ | .fld _ _ | .ix _ _ _ | .ia _ _ _=>some .addr
 | .ar _ k _ _=>some (.int k)
 | .cm _ _ _ | .bq _ _ | .sq _ _ | .nt _ | .an _ _ | .nn _=>some .bool
 | .it _ a b=>if a.sh=b.sh then a.sh else none
 | .cv k _=>some (.int k)
 | .mn a b | .mx a b=>if a.sh=b.sh then a.sh else none
 | .ln _ | .cp _=>some (.int .i64)
 | .sub .. | .sar .. => some .slice
 | .fn .. => some .fnv
 | .ifc .. => some .iface
 | .ag _ | .nl | .cs _ _=>none
def Ex.within(n m:Nat):Ex->Bool
 | .var _ i=>i<n
 | .cst _ | .glob _ | .nl=>true
 | .loc j _=>j<m
 | .ar _ _ a b | .cm _ a b | .bq a b | .sq a b | .an a b | .mn a b | .mx a b | .cs a b | .ix _ a b | .ia _ a b | .fn _ a b=>a.within n m&&b.within n m
 | .nt a | .cv _ a | .ln a | .cp a | .nz a | .fld a _ | .ifc _ a | .ag a | .nn a=>a.within n m
 | .it c a b=>c.within n m&&a.within n m&&b.within n m
 | .sub _ s a b c | .sar _ _ s a b c=>s.within n m&&a.within n m&&b.within n m&&c.within n m
def Ex.qO:Ex->Bool
 | .var .addr _=>true
 | .glob _ | .loc _ _ | .nz _ | .fld _ _ | .ix _ _ _ | .ia _ _ _=>true
 | _=>false
def Ex.list:List Ex->Ex
 | []=>.nl
 | a::l=>.cs a (Ex.list l)
inductive SV where
 | junk
 | x (e:Ex)
 | agg (cs:List Ex)
 | tup (cs:List (Bool×List Ex))
 deriving DecidableEq,Inhabited
structure GV where
 g:List Ex
 v:SV
 deriving DecidableEq,Inhabited
structure St where
 tmps:List GV
 loc:List (TypeId×List (Option Ex))
 n:Nat
 known:List (Ex×Bool)
 d:Nat
 dv:Bool:=false
 deriving DecidableEq,Inhabited
inductive Lf where
 | norm (st:St)
 | exit (id:Nat) (st:St)
 deriving Inhabited
inductive Tr where
 | ret (v:SV)
 | need (e:Ex) (t:Tr)
 | br (e:Ex) (a b:Tr)
 | load (a:Ex) (shs:List Sh) (t:Tr)
 | still (ps:List (Ex×Ex)) (t:Tr)
 | hsto (a:Ex) (cs:List Ex) (t:Tr)
 | hall (ty:TypeId) (cs:List (Nat×Ex)) (t:Tr)
 | hsl (ty:TypeId) (len:Nat) (cs:List Ex) (t:Tr)
 | mks (ty:TypeId) (sz byt:Nat) (z:List Cst) (l c:Ex) (t:Tr)
 | app (ty:TypeId) (sz byt:Nat) (z:List Cst) (s x:Ex) (t:Tr)
 | call (f:FuncId) (args:List SV) (tup:Bool) (res:List (Bool×List Sh)) (t:Tr)
 | callv (f:Ex) (args:List SV) (tup:Bool) (res:List (Bool×List Sh)) (t:Tr)
 | calli (r:Ex) (name:String) (args:List SV) (tup:Bool) (res:List (Bool×List Sh)) (t:Tr)
 | loop (shs:List Sh) (init:List Ex) (body:Tr)
 | cont (d:Nat) (vals:List Ex)
 | join (shs:List Sh) (arms rest:Tr)
 | strc (s:Ex) (t:Tr)
 | mrk (s:Ex) (t:Tr)
 | both (a b:Tr)
 | lift (t:Tr)
 | leaf (l:Lf)
 deriving Inhabited
inductive TyK where
 | int (k:IntKind) | bool | st (fs:List (Nat×TypeId)) | arr (n:Nat) (e:TypeId) | sl (e:TypeId) | ptr (e:TypeId) | ifc | fnk | str | oth
 deriving DecidableEq,Inhabited
def kH:TyK->Bool | .st _ | .arr _ _=>true | _=>false
structure TyD where
 k:TyK
 sz:Nat
 byt:Nat
 shs:List Sh
 z:Option (List (Nat×Cst))
 tup:Option (List TypeId)
 deriving Inhabited
structure Hint where
 key:Nat
 gen:List Nat
 cells:List (Nat×Nat)
 junk:List Nat
 deriving Inhabited
structure Cfg where
 tab:List (TypeId×TyD)
 hints:List Hint
 esc:List Nat
 results:List ResultVar
 deriving Inhabited
def Cfg.ty(c:Cfg)(t:TypeId):Option TyD:=c.tab.lookup t
inductive Eff where
 | pure (need:List Ex) (v:SV) (lr:Option Nat)
 | load (a:Ex) (agg:Bool) (shs:List Sh)
 | lsto (j off:Nat) (cs:List Ex)
 | hsto (a:Ex) (cs:List Ex)
 | lall (t:TypeId) (cs:List Ex)
 | hall (t:TypeId) (cs:List (Nat×Ex))
 | hsl (t:TypeId) (len:Nat) (cs:List Ex)
 | mks (e:TypeId) (sz byt:Nat) (z:List Cst) (l c:Ex)
 | app (e:TypeId) (sz byt:Nat) (z:List Cst) (s x:Ex)
 | call (f:FuncId) (args:List SV) (tup:Bool) (res:List (Bool×List Sh))
 | callv (f:Ex) (args:List SV) (tup:Bool) (res:List (Bool×List Sh))
 | calli (r:Ex) (name:String) (args:List SV) (tup:Bool) (res:List (Bool×List Sh))
 | strc (s:Ex)
 | mrk (s:Ex)
 deriving Inhabited
def St.isTrue(st:St)(e:Ex):Bool:=st.known.contains (e,true)
def St.isFalse(st:St)(e:Ex):Bool:=st.known.contains (e,false)
def St.get(st:St)(G:List Ex):Operand->Option SV
 | .tmp t=>match st.tmps[t]? with
  | some ⟨g,v⟩=>if g.all (fun e=>G.contains e||st.isTrue e)then(match v with | .junk=>none | v=>some v)else none
  | none=>none
 | .const v=>(Cst.of v).map fun c=>.x (.cst c)
 | .global g=>some (.x (.glob g))
 | .func f=>some (.x (.fn f .nl .nl))
def St.ex(st:St)(G:List Ex)(o:Operand):Option Ex:=match st.get G o with | some (.x e)=>some e | _=>none
def Ex.kI(e:Ex):Option IntKind:=match e.sh with | some (.int k)=>some k | _=>none
def Ex.isBool(e:Ex):Bool:=e.sh=some .bool
def HK:BinOp->Bool | .eql | .neq | .lss | .leq | .gtr | .geq=>true | _=>false
def Lv(op:BinOp)(e:Ex):Option Eff:=
 if op=.eql then some (.pure [] (.x e) none)else if op=.neq then some (.pure [] (.x (.nt e)) none)else none
def BQ:Operand->Bool | .const _=>true | _=>false
def Lw(k:TyK)(yc:Bool)(a b:Ex):Bool:=
 match k,b with
 | .ifc,.cst .nilIf=>yc&&a.sh=some .iface
 | .fnk,.cst .nilFn=>a.sh=some .fnv
 | .ptr _,.cst .nilPtr=>a.sh=some .ptr
 | .sl _,.cst .nilSl=>a.sh=some .slice
 | _,_=>false
def JB(op:BinOp)(k:TyK)(yc:Bool)(a b:Ex):Option Eff:=
 match a.kI,b.kI with
 | some k,some k'=>
  if op=.shl\/op=.shr then
   match b with
   | .cst (.int _ n)=>if 0<=n then some (.pure [] (.x (.ar op k a b)) none)else none
   | _=>some (.pure [.cm .geq b (.cst (.int k' 0))] (.x (.ar op k a b)) none)
  else if k=k' then
   if HK op then some (.pure [] (.x (.cm op a b)) none)
   else if op=.quo\/op=.rem then
    match b with
    | .cst (.int _ n)=>if n=0 then none else some (.pure [] (.x (.ar op k a b)) none)
    | _=>some (.pure [.cm .neq b (.cst (.int k 0))] (.x (.ar op k a b)) none)
   else some (.pure [] (.x (.ar op k a b)) none)
  else none
 | none,none=>
  if a.isBool&&b.isBool&&k=.bool then Lv op (.bq a b)
  else if a.sh=some .str&&b.sh=some .str then Lv op (.sq a b)
  else if Lw k yc a b then Lv op (.nn a)
  else none
 | _,_=>none
def Ex.scalar(e:Ex):Bool:=match e.sh with | some .any | none=>false | some _=>true
def SV.cells:SV->Option (List Ex)
 | .x e=>if e.scalar then some [e]else none
 | .agg cs=>some cs
 | _=>none
def On(cs:List Ex)(off:Nat):List Ex->List Ex
 | []=>cs
 | x::r=>On (cs.set off x) (off+1) r
def Br(fs:List (Nat×Nat))(cs:List Ex):List (Nat×List Ex)->Option (List Ex)
 | []=>some cs
 | (i,xs)::r=>match fs[i]? with
  | some (off,sz)=>if xs.length=sz/\off+sz<=cs.length then Br fs (On cs off xs) r else none
  | none=>none
def BR(z:List (Nat×Cst)):List Ex:=z.flatMap fun(n,c)=>List.replicate n (.cst c)
def jF(z:List (Nat×Cst)):List Cst:=z.flatMap fun(n,c)=>List.replicate n c
def allM{α β:Type}(f:α->Option β):List α->Option (List β)
 | []=>some []
 | a::l=>match f a,allM f l with
  | some b,some r=>some (b::r)
  | _,_=>none
def SV.HL:SV->Bool
 | .junk=>false
 | .x e=>e.within 1000000 0
 | .agg cs=>cs.all (·.within 1000000 0)
 | .tup _=>false
def NN(cfg:Cfg)(t:TypeId):Option (Bool×List (Bool×List Sh)):=
 match cfg.ty t with
 | none=>none
 | some d=>match d.tup with
  | none=>if kH d.k||d.shs.length==1 then some (false,[(kH d.k,d.shs)])else none
  | some ts=>match allM (fun t=>(cfg.ty t).map fun d=>(kH d.k,d.shs)) ts with
   | some l=>if l.all (fun r=>r.1||r.2.length==1)then some (true,l)else none
   | none=>none
def G1:Ex->List SV
 | .cs x r=>.x x::G1 r
 | _=>[]
def Ex.G3:Ex->Bool
 | .cs _ r=>r.G3
 | .nl=>true
 | _=>false
def yd(len cap:Ex)(isSl:Bool)(lo hi m:Option Ex):List Ex:=
 let le (a b:Ex):=Ex.cm .leq a b
 let z:=Ex.cst (.int .i64 0)
 (match m with | some m=>[le z m,le m cap] | none=>[]) ++
 (match hi with | some h=>[le z h,le h (m.getD cap)] | none=>[]) ++
 (match lo with | some l=>[le z l,le l (hi.getD len)] | none=>if isSl then []else [])
def EE:List Ex->List (Nat×Ex)
 | []=>[]
 | c::l=>match EE l with
  | (n,d)::r=>if c=d then(n+1,d)::r else(1,c)::(n,d)::r
  | []=>[(1,c)]
def zZ(cfg:Cfg)(st:St)(G:List Ex)(o:Oper):Option Eff:=
 let ex:=st.ex G
 match o.op with
 | .move x | .assign x=>(st.get G x).map fun v=>.pure [] v none
 | .binOp op xt x y _=>match ex x,ex y with
  | some a,some b=>match cfg.ty xt with | some d=>JB op d.k (BQ y) a b | none=>none
  | _,_=>none
 | .unOp op _ x=>match op,ex x with
  | .not,some a=>if a.isBool then some (.pure [] (.x (.nt a)) none)else none
  | .neg,some a=>a.kI.map fun k=>.pure [] (.x (.ar .sub k (.cst (.int k 0)) a)) none
  | .xor,some a=>a.kI.map fun k=>.pure [] (.x (.ar .xor k (.cst (.int k (if k.signed then -1 else k.max))) a)) none
  | _,_=>none
 | .convert src dst x=>match ex x,cfg.ty dst,cfg.ty src with
  | some a,some { k:=.int k,.. },some _=>a.kI.map fun _=>.pure [] (.x (.cv k a)) none
  | some a,some { k:=.str,.. },some { k:=.sl e,.. }=>match cfg.ty e with
   | some { k:=.int .u8,.. }=>if a.sh=some .slice&&a.within 1000000 0 then some (.strc a)else none
   | _=>none
  | some a,some { k:=.sl e,.. },some _=>match cfg.ty e with
   | some { k:=.int .u8,.. }=>if src=dst&&a.sh=some .slice&&a.within 1000000 0 then some (.mrk a)else none
   | _=>none
  | _,_,_=>none
 | .alloc t=>match cfg.ty t with
  | some { z:=some z,.. }=>
   if(o.dst.map cfg.esc.contains).getD true then some (.hall t (z.map fun(n,c)=>(n,.cst c)))else some (.lall t (BR z))
  | _=>none
 | .box t x=>match(st.get G x).bind SV.cells with
  | some cs=>if(o.dst.map cfg.esc.contains).getD true then(if cs.all (·.within 1000000 0)then some (.hall t (EE cs))else none)else some (.lall t cs)
  | none=>none
 | .build t parts=>match cfg.ty t with
  | some { k:=.arr n e,z:=some z,.. }=>match cfg.ty e with
   | some de=>
    match allM (fun p:Nat×Operand=>((st.get G p.2).bind SV.cells).map fun cs=>(p.1,cs)) parts.toList with
    | some ps=>if ps.all (fun p=>p.1<n)then(Br ((List.range n).map fun i=>(i*de.sz,de.sz)) (BR z) ps).map fun cs=>.pure [] (.agg cs) none else none
    | none=>none
   | none=>none
  | some { k:=.st fs,z:=some z,.. }=>
   match allM (fun f:Nat×TypeId=>(cfg.ty f.2).map fun d=>(f.1,d.sz)) fs,allM (fun p:Nat×Operand=>((st.get G p.2).bind SV.cells).map fun cs=>(p.1,cs)) parts.toList with
   | some fs,some ps=>(Br fs (BR z) ps).map fun cs=>.pure [] (.agg cs) none
   | _,_=>none
  | _=>none
 | .buildSlice t len parts=>match cfg.ty t with
  | some { k:=.sl e,.. }=>match cfg.ty e with
   | some { sz:=sz,z:=some z,.. }=>
    match allM (fun p:Nat×Operand=>((st.get G p.2).bind SV.cells).map fun cs=>(p.1,cs)) parts.toList with
    | some ps=>match Br ((List.range len).map fun i=>(i*sz,sz)) ((List.range len).flatMap fun _=>BR z) ps with
     | some cs=>if cs.all (·.within 1000000 0)&&len*sz<=2^24&&(BR z).length==sz&&ps.all (fun p=>p.1<len)then some (.hsl e len cs)else none
     | none=>none
    | none=>none
   | _=>none
  | _=>none
 | .load t a=>match ex a,cfg.ty t with
  | some a,some d=>
   let agg:Bool:=kH d.k
   if !a.qO then none else
   match a with
   | .loc j off=>match st.loc[j]? with
    | some (_,cs)=>if off+d.sz<=cs.length then
      (match allM (fun x:Option Ex=>x) ((cs.drop off).take d.sz)with
      | some xs=>if agg then some (.pure [] (.agg xs) (some j))else(match xs with | [x]=>some (.pure [] (.x x) (some j)) | _=>none)
      | none=>none)else none
    | none=>none
   | a=>if d.shs.length==d.sz&&(agg||d.sz==1)then some (.load a agg d.shs)else none
  | _,_=>none
 | .store t a x=>match ex a,(st.get G x).bind SV.cells,cfg.ty t with
  | some a,some cs,some d=>
   if !a.qO||cs.length≠d.sz || !(cs.all Ex.scalar)then none else
   match a with
   | .loc j off=>if(st.loc[j]?).isSome&&off+d.sz<=((st.loc[j]?).map (·.2.length)).getD 0 then some (.lsto j off cs)else none
   | a=>if cs.all (·.within 1000000 0) && !cs.isEmpty then some (.hsto a cs)else none
  | _,_,_=>none
 | .nilCheck x=>match ex x with
  | some a=>if a.qO then some (.pure [] (.x a) none)else if a.sh=some .ptr then some (.pure [.nt (.nn a)] (.x (.nz a)) none)else
    (match a with | .fn .. => some (.pure [] (.x a) none) | _=>none)
  | none=>none
 | .makeInterface t x=>match cfg.ty t,st.get G x with
  | some d,some (.x e)=>if d.k=.ifc||d.k=.oth then none else some (.pure [] (.x (.ifc t e)) none)
  | some d,some (.agg cs)=>if d.k=.ifc||d.k=.oth then none else some (.pure [] (.x (.ifc t (.ag (Ex.list cs)))) none)
  | _,_=>none
 | .makeFunc (.func f) first cap=>match allM ex first.toList,allM ex cap.toList with
  | some a,some b=>some (.pure [] (.x (.fn f (Ex.list a) (Ex.list b))) none)
  | _,_=>none
 | .makeSlice t l c=>match cfg.ty t,ex l,ex c with
  | some { k:=.sl e,.. },some l,some c=>match cfg.ty e with
   | some { sz:=sz,byt:=byt,z:=some z,.. }=>if l.kI.isSome&&c.kI.isSome&&l.within 1000000 0&&c.within 1000000 0 then some (.mks e sz byt (jF z) l c)else none
   | _=>none
  | _,_,_=>none
 | .slice t x lo hi m=>match ex x,cfg.ty t,allM ex lo.toList,allM ex hi.toList,allM ex m.toList with
  | some s,some d,some lo,some hi,some m=>
   let lo:=lo.head?;let hi:=hi.head?;let m:=m.head?
   if !((lo.toList++hi.toList++m.toList).all (·.kI.isSome))||(m.isSome&&hi.isNone)then none else
   match d.k with
   | .sl e=>match cfg.ty e with
    | some de=>if s.sh=some .slice then some (.pure (yd (.ln s) (.cp s) true lo hi m) (.x (.sub de.sz s (lo.getD .nl) (hi.getD .nl) (m.getD .nl))) none)else none
    | none=>none
   | .arr n e=>match cfg.ty e with
    | some de=>if s.qO&&s.within 1000000 0 then some (.pure (yd (.cst (.int .i64 n)) (.cst (.int .i64 n)) false lo hi m) (.x (.sar n de.sz s (lo.getD .nl) (hi.getD .nl) (m.getD .nl))) none)else none
    | none=>none
   | _=>none
  | _,_,_,_,_=>none
 | .fieldAddr t x f=>match ex x,cfg.ty t with
  | some a,some { k:=.st fs,.. }=>match fs[f]? with
   | some (off,ft)=>match cfg.ty ft with
    | some d=>if d.sz=0 || !a.qO then none else match a with
     | .loc j o=>some (.pure [] (.x (.loc j (o+off))) none)
     | a=>some (.pure [] (.x (.fld a off)) none)
    | none=>none
   | none=>none
  | _,_=>none
 | .field t x f=>match st.get G x,cfg.ty t with
  | some (.agg cs),some { k:=.st fs,.. }=>match fs[f]? with
   | some (off,ft)=>match cfg.ty ft with
    | some d=>if off+d.sz<=cs.length then(if kH d.k then some (.pure [] (.agg ((cs.drop off).take d.sz)) none)else
      (match cs[off]? with | some c=>some (.pure [] (.x c) none) | none=>none))else none
    | none=>none
   | none=>none
  | _,_=>none
 | .indexAddr t x i=>match ex x,ex i,cfg.ty t with
  | some a,some i,some d=>if i.kI.isNone then none else match d.k with
   | .sl e=>match cfg.ty e with
    | some de=>if a.sh=some .slice then some (.pure [.nt (.nn a),.cm .leq (.cst (.int .i64 0)) i,.cm .lss i (.ln a)] (.x (.ix de.sz a i)) none)else none
    | none=>none
   | .arr n e=>match cfg.ty e with
    | some de=>if !a.qO||n<=1 then none else match a,i with
     | .loc j o,.cst (.int _ c)=>if 0<=c/\c<n then some (.pure [] (.x (.loc j (o+c.toNat*de.sz))) none)else none
     | .loc _ _,_=>none
     | a,i=>some (.pure [.cm .leq (.cst (.int .i64 0)) i,.cm .lss i (.cst (.int .i64 n))] (.x (.ia de.sz a i)) none)
    | none=>none
   | _=>none
  | _,_,_=>none
 | .extract x i=>match st.get G x with
  | some (.tup cs)=>match cs[i]? with
   | some (true,c)=>some (.pure [] (.agg c) none)
   | some (false,[c])=>some (.pure [] (.x c) none)
   | _=>none
  | _=>none
 | .call { callee:=.builtin b,args,argTypes }=>
  match b,allM ex args.toList with
  | .len,some [a]=>if a.sh=some .slice&&((argTypes[0]?).bind cfg.ty).any (fun d=>match d.k with | .sl _=>true | _=>false)then some (.pure [] (.x (.ln a)) none)else none
  | .cap,some [a]=>if a.sh=some .slice&&((argTypes[0]?).bind cfg.ty).any (fun d=>match d.k with | .sl _=>true | _=>false)then some (.pure [] (.x (.cp a)) none)else none
  | .min,some [a,b]=>if a.kI.isSome&&a.kI=b.kI then some (.pure [] (.x (.mn a b)) none)else none
  | .max,some [a,b]=>if a.kI.isSome&&a.kI=b.kI then some (.pure [] (.x (.mx a b)) none)else none
  | .append,some [s,x]=>match(argTypes[0]?).bind cfg.ty,(argTypes[1]?).bind cfg.ty with
   | some { k:=.sl e,.. },some { k:=.sl _,.. }=>match cfg.ty e with
    | some { sz:=sz,byt:=byt,z:=some z,.. }=>if s.sh=some .slice&&x.sh=some .slice&&s.within 1000000 0&&x.within 1000000 0&&byt≠0 then some (.app e sz byt (jF z) s x)else none
    | _=>none
   | _,_=>none
  | _,_=>none
 | .call { callee:=.value f,args,.. }=>
  match ex f,allM (st.get G) args.toList,NN cfg o.type with
  | some f,some as,some (tup,res)=>
   if !(as.all SV.HL)then none else
   match f with
   | .fn f a b=>if(SV.x a).HL&&(SV.x b).HL&&a.G3&&b.G3 then
     some (.call f (G1 a++as++G1 b) tup res)else none
   | f=>if f.sh=some .fnv&&f.within 1000000 0 then some (.callv f as tup res)else none
  | _,_,_=>none
 | .call { callee:=.invoke r name,args,.. }=>
  match ex r,allM (st.get G) args.toList,NN cfg o.type with
  | some f,some as,some (tup,res)=>if as.all SV.HL&&f.sh=some .iface&&f.within 1000000 0 then some (.calli f name as tup res)else none
  | _,_,_=>none
 | _=>none
def St.put(st:St)(dst:Option Tmp)(v:GV):St:=match dst with | some d=>{ st with tmps:=st.tmps.set d v } | none=>st
def St.qb(st:St)(e:Ex)(b:Bool):St:={ st with known:=(e,b)::st.known }
def HM:List Ex->Tr->Tr
 | [],t=>t
 | e::r,t=>.need e (HM r t)
def zi(n:Nat):List Sh->List Ex
 | []=>[]
 | s::r=>.var s n::zi (n+1) r
def zk(n:Nat):List (Bool×List Sh)->List (Bool×List Ex)
 | []=>[]
 | (a,s)::r=>(a,zi n s)::zk (n+s.length) r
def zn(res:List (Bool×List Sh)):List Sh:=res.flatMap (·.2)
def zz(n:Nat)(tup:Bool)(res:List (Bool×List Sh)):SV:=
 if tup then .tup (zk n res)else match zk n res with
  | [(true,cs)]=>.agg cs
  | [(false,[c])]=>.x c
  | _=>.junk
def setCells(cs:List (Option Ex))(off:Nat):List Ex->List (Option Ex)
 | []=>cs
 | x::r=>setCells (cs.set off (some x)) (off+1) r
def j0(ps:List (Nat×Ex×Ex))(t:Tr):Tr:=if ps.isEmpty then t else .still (ps.map (·.2)) t
def xC(st:St)(dst:Option Tmp)(G:List Ex)(tag:Nat)(pins:List (Nat×Ex×Ex))(e:Eff)(k:List (Nat×Ex×Ex)->St->Option Tr):Option Tr:=
 match e with
 | .pure need v _=>if need.all (·.within 1000000 0)then(k pins (st.put dst ⟨G,v⟩)).map (HM need)else none
 | .load a agg shs=>if !(a.within 1000000 0) || !(decide (st.n+shs.length<=1000000))then none else
  let vs:=zi st.n shs
  let v:SV:=if agg then .agg vs else match vs with | [x]=>.x x | _=>.junk
  let ps:=match agg,vs with | false,[x]=>[(a,x)] | _,vs=>vs.zipIdx.map fun(x,i)=>(Ex.fld a i,x)
  (k (ps.map (fun x=>(tag,x))++pins) ({ st with n:=st.n+shs.length }.put dst ⟨[],v⟩)).map (.load a shs)
 | .lsto j off cs=>k pins ({ st with loc:=st.loc.modify j fun(t,l)=>(t,setCells l off cs) }.put dst ⟨[],.junk⟩)
 | .hsto a cs=>if !(a.within 1000000 0)then none else(k pins (st.put dst ⟨[],.junk⟩)).map fun t=>.hsto a cs (j0 pins t)
 | .lall t cs=>k pins ({ st with loc:=st.loc++[(t,cs.map some)] }.put dst ⟨[],.x (.loc st.loc.length 0)⟩)
 | .hall t cs=>(k pins ({ st with n:=st.n+1 }.put dst ⟨[],.x (.var .addr st.n)⟩)).map fun u=>.hall t cs (j0 pins u)
 | .hsl t len cs=>(k pins ({ st with n:=st.n+1 }.put dst ⟨[],.x (.var .slice st.n)⟩)).map fun u=>.hsl t len cs (j0 pins u)
 | .mks e sz byt z l c=>(k pins ({ st with n:=st.n+1 }.put dst ⟨[],.x (.var .slice st.n)⟩)).map fun u=>.mks e sz byt z l c (j0 pins u)
 | .app e sz byt z s x=>(k pins ({ st with n:=st.n+1 }.put dst ⟨[],.x (.var .slice st.n)⟩)).map fun u=>.app e sz byt z s x (j0 pins u)
 | .call f args tup res=>(k pins ({ st with n:=st.n+(zn res).length }.put dst ⟨[],zz st.n tup res⟩)).map fun u=>.call f args tup res (j0 pins u)
 | .callv f args tup res=>(k pins ({ st with n:=st.n+(zn res).length }.put dst ⟨[],zz st.n tup res⟩)).map fun u=>.callv f args tup res (j0 pins u)
 | .calli f name args tup res=>(k pins ({ st with n:=st.n+(zn res).length }.put dst ⟨[],zz st.n tup res⟩)).map fun u=>.calli f name args tup res (j0 pins u)
 | .strc a=>(k pins ({ st with n:=st.n+1 }.put dst ⟨[],.x (.var .str st.n)⟩)).map fun u=>.strc a (j0 pins u)
 | .mrk a=>(k pins (st.put dst ⟨[],.x a⟩)).map fun u=>.mrk a (j0 pins u)
def guardOf(ops:Array Oper)(st:St)(o:Oper):Option (List Ex):=
 match o.guard with
 | none=>some []
 | some (j,want)=>match(ops[j]?).bind (·.dst)with
  | none=>none
  | some t=>match st.tmps[t]? with
   | some ⟨g,.x e⟩=>if e.isBool&&e.within st.n st.loc.length then some (g++[if want then e else .nt e])else none
   | some ⟨g,.junk⟩=>if g.contains (.cst (.bool false))then some [.cst (.bool false)]else none
   | _=>none
def ju(st:St)(e:Ex):Option Bool:=
 if st.isTrue e then some true else if st.isFalse e then some false else
 if st.isTrue (.nt e)then some false else if st.isFalse (.nt e)then some true else
 match e with
 | .nt a=>if st.isTrue a then some false else if st.isFalse a then some true else(match a with | .cst (.bool b)=>some !b | _=>none)
 | .cst (.bool b)=>some b
 | _=>none
def HN(st:St)(G:List Ex)(c a b:Operand):Option Eff:=
 match st.ex G c with
 | none=>none
 | some ce=>
  if !ce.isBool then none else
  match ju st ce with
  | some true=>(st.get G a).map fun v=>.pure [] v none
  | some false=>(st.get G b).map fun v=>.pure [] v none
  | none=>match st.ex (ce::G) a,st.ex (.nt ce::G) b with
   | some x,some y=>if x.isBool&&y.isBool then some (.pure [] (.x (.it ce x y)) none)else none
   | _,_=>none
def jY(cfg:Cfg)(st:St)(G:List Ex)(o:Oper):Option Eff:=
 match o.op with
 | .pick c a b=>HN st G c a b
 | _=>zZ cfg st G o
def G5:Eff->Bool
 | .pure [] _ _=>true
 | _=>false
def JC(st:St)(skip run:St->Option Tr):List Ex->Option Tr
 | []=>run st
 | g::r=>match ju st g with
  | some true=>JC st skip run r
  | some false=>skip st
  | none=>if !(g.within 1000000 0)then none else match JC (st.qb g true) skip run r,skip (st.qb g false)with
   | some a,some b=>some (.br g a b)
   | _,_=>none
 termination_by structural l=>l
def IP(ops:Array Oper)(listed:Array Bool)(st:St)(j:Nat)(o:Oper):Bool:=
 match o.op with
 | .store _ (.tmp t) _=>
  ((match st.tmps[t]? with | some ⟨[],.x (.loc j' _)⟩=>j' != j&&decide (j'<st.loc.length) | _=>false)) &&
  (List.range ops.size).all fun k=>listed.getD k true||match ops[k]? with | some ok=>ok.dst != some t | none=>true
 | .store .. => false
 | _=>true
def Bs(ops:Array Oper)(listed:Array Bool)(st:St)(i:Nat)(lr:Option Nat):Bool:=
 Region.free .any ops listed i&&match lr with
  | none=>true
  | some j=>(List.range ops.size).all fun k=>k==i||listed.getD k true ||
    match ops[k]? with | some ok=>ok.after.any (fun e=>Region.binds .any e&&e.on==i)||IP ops listed st j ok | none=>true
def Fv(ops:Array Oper)(listed:Array Bool)(st:St)(i:Nat):Option Eff->Bool
 | some (.pure _ _ lr)=>Bs ops listed st i lr
 | some (.load ..)=>Bs ops listed st i none
 | _=>false
def EF(cfg:Cfg)(ops:Array Oper)(st:St)(listed:Array Bool):List Nat->Option Nat
 | []=>none
 | i::r=>match ops[i]? with
  | none=>none
  | some o=>match guardOf ops st o with
   | none=>EF cfg ops st listed r
   | some G=>if Fv ops listed st i (jY cfg st G o)||(G.any (fun g=>ju st g=some false)&&Bs ops listed st i none)then some i else EF cfg ops st listed r
def NO(ops:Array Oper):Bool:=(List.range ops.size).all fun i=>match ops[i]? with
 | none=>false
 | some o=>(match o.op with | .store .. => false | _=>true)&&o.after.all (fun e => !Region.binds .any e||decide (e.on<i)) &&
   (List.range ops.size).all fun j=>decide (j<=i)||match ops[j]? with | none=>true | some oj=>oj.after.any (fun e=>Region.binds .any e&&e.on==i)||o.apart ops oj
def QE:Option Eff->Bool
 | some (.pure ..) | some (.load ..)=>true
 | _=>false
def Ay(calm:Bool)(ops:Array Oper)(listed:Array Bool)(st:St)(i:Nat)(e:Option Eff):Bool:=if calm then QE e else Fv ops listed st i e
def JD(calm:Bool)(ops:Array Oper)(listed:Array Bool)(st:St)(i:Nat):Bool:=if calm then true else Bs ops listed st i none
def AF(cfg:Cfg)(ops:Array Oper)(listed:Array Bool)(alone calm:Bool)(i:Nat)(o:Oper)(next:List (Nat×Ex×Ex)->St->Option Tr)(pins0:List (Nat×Ex×Ex))(st:St):Option Tr:=
 let pins:=if alone then pins0.filter (fun t => !waits o t.1)else pins0
 match guardOf ops st o with
 | none=>none
 | some G=>
  match(if G.any (fun g=>ju st g=some false)then none else match jY cfg st G o with | some e=>if G5 e then some e else none | none=>none)with
  | some e=>if alone||Ay calm ops listed st i (some e)then xC st o.dst (G.filter fun g=>ju st g≠some true) i pins e next else none
  | none=>JC st (fun st'=>if alone||JD calm ops listed st i then next pins (st'.put o.dst ⟨[.cst (.bool false)],.junk⟩)else none)
    (fun st'=>match jY cfg st' [] o with
     | some e=>if alone||Ay calm ops listed st i (some e)then xC st' o.dst [] i pins e next else none
     | none=>none) G
def NP:List (Option Tr)->Option Tr
 | []=>none
 | [t]=>t
 | t::r=>match t,NP r with | some a,some b=>some (.both a b) | _,_=>none
def sxA(cfg:Cfg)(ops:Array Oper):Nat->Array Bool->List (Nat×Ex×Ex)->St->Option Tr
 | 0,listed,_,st=>if Region.ready .any ops listed=[]then some (.leaf (.norm st))else none
 | fuel+1,listed,pins,st=>
  if Region.ready .any ops listed=[]then some (.leaf (.norm st))else
  if(EF cfg ops st listed (Region.ready .any ops listed)).isNone&&decide (1<(Region.ready .any ops listed).length)&&decide ((Region.ready .any ops listed).length<=3)then
   NP ((Region.ready .any ops listed).map fun i=>match ops[i]? with
    | none=>none
    | some o=>AF cfg ops listed true false i o (sxA cfg ops fuel (listed.setIfInBounds i true)) pins st)
  else
  let i:=(EF cfg ops st listed (Region.ready .any ops listed)).getD ((Region.ready .any ops listed).headD 0)
  match ops[i]? with
  | none=>none
  | some o=>if !(Region.ready .any ops listed).contains i then none else
   AF cfg ops listed (Region.ready .any ops listed == [i]) false i o (sxA cfg ops fuel (listed.setIfInBounds i true)) pins st
def sxG(cfg:Cfg)(ops:Array Oper):Nat->Nat->List (Nat×Ex×Ex)->St->Option Tr
 | 0,_,_,st=>some (.leaf (.norm st))
 | fuel+1,i,pins,st=>match ops[i]? with
  | none=>none
  | some o=>AF cfg ops #[] false true i o (sxG cfg ops fuel (i+1)) pins st
def sxQ(cfg:Cfg)(ops:Array Oper):List Nat->St->Option Tr
 | [],st=>some (.leaf (.norm st))
 | i::r,st=>match ops[i]? with
  | none=>none
  | some o=>AF cfg ops #[] true false i o (fun _ st=>sxQ cfg ops r st) [] st
def sxR(cfg:Cfg)(ops:Array Oper)(draw:Bool)(st:St):Option Tr:=
 if draw then(if Region.noSelect ops then(match(if NO ops then sxG cfg ops ops.size 0 [] st else none)with
  | some t=>some t
  | none=>sxA cfg ops ops.size (Array.replicate ops.size false) [] st)else none)else sxQ cfg ops (List.range ops.size) st
def Tr.BG:Tr->List St
 | .leaf (.norm st)=>[st]
 | .leaf _ | .ret _ | .cont _ _=>[]
 | .need _ t | .load _ _ t | .still _ t | .hsto _ _ t | .hall _ _ t | .hsl _ _ _ t | .mks _ _ _ _ _ _ t | .app _ _ _ _ _ _ t | .call _ _ _ _ t | .callv _ _ _ _ t | .calli _ _ _ _ _ t | .strc _ t | .mrk _ t | .lift t=>t.BG
 | .br _ a b=>a.BG++b.BG
 | .loop _ _ b=>b.BG
 | .join _ a b=>a.BG++b.BG
 | .both a b=>a.BG++b.BG
def Tr.bind(t:Tr)(f:Lf->Option Tr):Option Tr:=
 match t with
 | .leaf l=>f l
 | .ret v=>some (.ret v)
 | .cont k v=>some (.cont k v)
 | .need e t=>(t.bind f).map (.need e)
 | .load a s t=>(t.bind f).map (.load a s)
 | .still p t=>(t.bind f).map (.still p)
 | .hsto a c t=>(t.bind f).map (.hsto a c)
 | .hall a c t=>(t.bind f).map (.hall a c)
 | .hsl a l c t=>(t.bind f).map (.hsl a l c)
 | .mks a b c d e g t=>(t.bind f).map (.mks a b c d e g)
 | .app a b c d e g t=>(t.bind f).map (.app a b c d e g)
 | .call a b c d t=>(t.bind f).map (.call a b c d)
 | .callv a b c d t=>(t.bind f).map (.callv a b c d)
 | .calli a n b c d t=>(t.bind f).map (.calli a n b c d)
 | .br e a b=>match a.bind f,b.bind f with | some a,some b=>some (.br e a b) | _,_=>none
 | .loop s i b=>(b.bind f).map (.loop s i)
 | .lift t=>(t.bind f).map .lift
 | .strc a t=>(t.bind f).map (.strc a)
 | .mrk a t=>(t.bind f).map (.mrk a)
 | .join s a b=>match a.bind f,b.bind f with | some a,some b=>some (.join s a b) | _,_=>none
 | .both a b=>match a.bind f,b.bind f with | some a,some b=>some (.both a b) | _,_=>none
def JE(t:Tr)(f:St->Option Tr):Option Tr:=t.bind fun | .norm st=>f st | l=>some (.leaf l)
def EG{α:Type}[DecidableEq α]:List α->Option α
 | []=>none
 | [a]=>some a
 | a::r=>if EG r=some a then some a else none
inductive Mg where
 | keep (v:GV) | gen (s:Sh) | junk
 deriving Inhabited
def Ak(n m:Nat)(v:GV):Bool:=
 v.g.all (·.within n m)&&match v.v with
  | .junk=>true
  | .x e=>e.within n m
  | .agg cs=>cs.all (·.within n m)
  | .tup cs=>cs.all fun c=>c.2.all (·.within n m)
def SO(n m:Nat)(vs:List GV):Mg:=
 match EG vs with
 | some v=>if Ak n m v then .keep v else(match v with | ⟨[],.x e⟩=>(match e.sh with | some s=>if e.within 1000000 0 then .gen s else .junk | none=>.junk) | _=>.junk)
 | none=>
  match allM (fun v:GV=>match v with | ⟨[],.x e⟩=>if e.within 1000000 0 then e.sh else none | _=>none) vs with
  | some ss=>match EG ss with | some s=>.gen s | none=>.junk
  | none=>.junk
def SP(n m:Nat)(vs:List (Option Ex)):Option (Sum Ex Sh):=
 match allM id vs with
 | none=>none
 | some es=>
  match EG es with
  | some e=>if e.within n m then some (.inl e)else(match e.sh with | some s=>if e.within 1000000 0 then some (.inr s)else none | none=>none)
  | none=>match allM (fun e:Ex=>if e.within 1000000 0 then e.sh else none) es with
   | some ss=>(EG ss).map .inr
   | none=>none
structure Plan where
 gen:List (Nat×Sh)
 cells:List (Nat×Nat×Sh)
 junk:List Nat
 cjunk:List (Nat×Nat)
 deriving Inhabited
def SQ (st0 : St) (sts : List St) : Plan :=
  let n := st0.n; let m := st0.loc.length
  let Ip := (List.range st0.tmps.length).map fun i => (i, SO n m (sts.map fun s => (s.tmps[i]?).getD ⟨[], .junk⟩))
  let cells := (st0.loc.zipIdx.flatMap fun (b, j) => (List.range b.2.length).map fun o => ((j, o), SP n m (sts.map fun s => ((s.loc[j]?).bind (fun b => b.2[o]?)).join)))
  { gen := Ip.filterMap fun (i, g) => match g with | .gen s => some (i, s) | _ => none
    cells := cells.filterMap fun (p, g) => match g with | some (.inr s) => some (p.1, p.2, s) | _ => none
    junk := Ip.filterMap fun (i, g) => match g with | .junk => some i | _ => none
    cjunk := cells.filterMap fun (p, g) => match g with | none => some p | _ => none }
def Plan.shs(p:Plan):List Sh:=p.gen.map (·.2)++p.cells.map (·.2.2)
def Fw(loc:List (TypeId×List (Option Ex)))(j o:Nat)(e:Option Ex):List (TypeId×List (Option Ex)):=loc.modify j fun(t,l)=>(t,l.set o e)
def CX(tmps:List GV)(n:Nat):List (Nat×Sh)->List GV
 | []=>tmps
 | (i,s)::r=>CX (tmps.set i ⟨[],.x (.var s n)⟩) (n+1) r
def Al(loc:List (TypeId×List (Option Ex)))(n:Nat):List (Nat×Nat×Sh)->List (TypeId×List (Option Ex))
 | []=>loc
 | (j,o,s)::r=>Al (Fw loc j o (some (.var s n))) (n+1) r
def G6(tmps:List GV):List Nat->List GV
 | []=>tmps
 | i::r=>G6 (tmps.set i ⟨[],.junk⟩) r
def G7(loc:List (TypeId×List (Option Ex))):List (Nat×Nat)->List (TypeId×List (Option Ex))
 | []=>loc
 | (j,o)::r=>G7 (Fw loc j o none) r
def Plan.st (p : Plan) (base : St) (n m : Nat) (known : List (Ex × Bool)) (d : Nat) : St :=
  { tmps := CX (G6 base.tmps p.junk) n p.gen
    loc := Al (G7 (base.loc.take m) p.cjunk) (n + p.gen.length) p.cells
    n := n + p.gen.length + p.cells.length
    known := known
    d := d }
def Plan.vals(p:Plan)(st:St):Option (List Ex):=
 match allM (fun q:Nat×Sh=>match st.tmps[q.1]? with | some ⟨[],.x e⟩=>if e.sh=some q.2&&e.within 1000000 0 then some e else none | _=>none) p.gen,
  allM (fun q:Nat×Nat×Sh=>match(st.loc[q.1]?).bind (fun b=>b.2[q.2.1]?)with | some (some e)=>if e.sh=some q.2.2&&e.within 1000000 0 then some e else none | _=>none) p.cells with
 | some a,some b=>some (a++b)
 | _,_=>none
def Plan.fits(p:Plan)(st tgt:St)(n m:Nat):Bool:=
 st.tmps.length==tgt.tmps.length &&
 (tgt.tmps.zipIdx.all fun(v,i)=>v==⟨[],.junk⟩||(p.gen.any (·.1==i))||(Ak n m v&&st.tmps[i]? == some v)) &&
 (tgt.loc.length==m)&&m<=st.loc.length &&
 (tgt.loc.zipIdx.all fun(b,j)=>match st.loc[j]? with
  | some c=>c.1==b.1&&c.2.length==b.2.length&&b.2.zipIdx.all fun(x,o)=>x==none||(p.cells.any fun q=>q.1==j&&q.2.1==o)||(((x.map (Ex.within n m ·)).getD true)&&c.2[o]? == some x)
  | none=>false) && !st.dv
def CG(st0:St)(t:Tr):Option Tr:=
 match t.BG with
 | [] | [_]=>some (.lift t)
 | s::r=>
  let p:=SQ st0 (s::r)
  let tgt:=p.st s st0.n st0.loc.length st0.known st0.d
  match JE t fun st=>if p.fits st tgt st0.n st0.loc.length then(p.vals st).map (.cont st0.d)else none with
  | some arms=>some (.join p.shs arms (.leaf (.norm tgt)))
  | none=>none
def El:Code->Nat
 | .region id _ _=>id
 | .seq a _=>El a
 | .block _ a | .loop a | .scope a=>El a
 | _=>0
def Oo(cfg:Cfg)(st:St):ResultVar->Option (Bool×List Ex×List (Ex×List Sh))
 | .tmp t=>match st.tmps[t]? with
  | some ⟨[],.x e⟩=>if e.within 1000000 0 then some (false,[e],[])else none
  | some ⟨[],.agg cs⟩=>if cs.all (·.within 1000000 0)then some (true,cs,[])else none
  | _=>none
 | .cell a ty=>match st.tmps[a]?,cfg.ty ty with
  | some ⟨[],.x (.loc j 0)⟩,some d=>match st.loc[j]? with
   | some (_,cs)=>if d.sz=cs.length/\(kH d.k||d.sz==1)=true then(match allM id cs with
    | some xs=>if xs.all (·.within 1000000 0)then some (kH d.k,xs,[])else none
    | none=>none)else none
   | none=>none
  | some ⟨[],.x (.var .addr i)⟩,some d=>if d.shs.length=d.sz/\(kH d.k||d.sz==1)=true/\i<1000000 then some (kH d.k,[],[(.var .addr i,d.shs)])else none
  | _,_=>none
def HP(cfg:Cfg)(st:St):Nat->List ResultVar->List (Bool×List Ex)->Option Tr
 | _,[],acc=>match acc.reverse with
  | [(true,cs)]=>some (.ret (.agg cs))
  | [(false,[c])]=>some (.ret (.x c))
  | l=>if l.length=1 then none else some (.ret (.tup l))
 | n,r::rs,acc=>match Oo cfg st r with
  | some (b,es,[])=>HP cfg st n rs ((b,es)::acc)
  | some (b,_,(a,shs)::_)=>if n+shs.length<=1000000 then(HP cfg st (n+shs.length) rs ((b,zi n shs)::acc)).map (.load a shs)else none
  | none=>none
def RL(cfg:Cfg)(st:St):Option Tr:=if st.dv then none else HP cfg st st.n cfg.results []
def QF(c:Ex)(a b:GV):Option GV:=
 if a=b then some a else
 match a,b with
 | ⟨[],.x x⟩,⟨[],.x y⟩=>if x.sh=y.sh&&x.sh.isSome then some ⟨[],.x (.it c x y)⟩else some ⟨[],.junk⟩
 | _,_=>some ⟨[],.junk⟩
def SR(c:Ex)(a b:Option Ex):Option (Option Ex):=
 if a=b then some a else match a,b with
 | some x,some y=>if x.sh=y.sh&&x.sh.isSome then some (some (.it c x y))else none
 | _,_=>some none
def HQ(c:Ex)(a b:St)(st0:St):Option St:=
 if a.n=st0.n/\b.n=st0.n/\a.d=b.d/\a.loc.length=st0.loc.length/\b.loc.length=st0.loc.length/\a.tmps.length=b.tmps.length then
  match allM (fun p:GV×GV=>QF c p.1 p.2) (a.tmps.zip b.tmps),
   allM (fun p:(TypeId×List (Option Ex))×(TypeId×List (Option Ex))=>if p.1.1=p.2.1/\p.1.2.length=p.2.2.length then(allM (fun q:Option Ex×Option Ex=>SR c q.1 q.2) (p.1.2.zip p.2.2)).map fun l=>(p.1.1,l)else none) (a.loc.zip b.loc)with
  | some tm,some lc=>some { tmps:=tm,loc:=lc,n:=st0.n,known:=st0.known,d:=st0.d,dv:=a.dv||b.dv }
  | _,_=>none
 else none
def YO(st:St)(i:Nat):Option (Nat×Sh):=
 match st.tmps[i]? with
 | some ⟨[],.x e⟩=>e.sh.map fun s=>(i,s)
 | _=>none
def YP(st:St)(q:Nat×Nat):Option (Nat×Nat×Sh):=
 match(st.loc[q.1]?).bind (fun b=>b.2[q.2]?)with
 | some (some e)=>e.sh.map fun s=>(q.1,q.2,s)
 | _=>none
def JF:Tr:=.need (.cst (.bool false)) (.ret .junk)
def sxC(cfg:Cfg):Code->St->Option Tr
 | .skip,st | .label _,st=>some (.leaf (.norm st))
 | .region _ ops draw,st=>if decide (ops.size>40)&&ops.toList.any (fun o=>o.guard.isSome)then(match sxR cfg ops draw { st with d:=st.d+1 } with | some t=>CG st t | none=>none)else match sxR cfg ops draw st with
  | some t=>(match t.BG with
   | [] | [_]=>some t
   | _=>match sxR cfg ops draw { st with d:=st.d+1 } with
    | some t=>CG st t
    | none=>none)
  | none=>none
 | .seq a b,st=>match sxC cfg a st with
  | some t=>JE t fun s=>some ((sxC cfg b s).getD JF)
  | none=>none
 | .cond c x y,st=>match st.ex [] c with
  | some e=>if !e.isBool then none else
   match ju st e with
   | some true=>sxC cfg x st
   | some false=>sxC cfg y st
   | none=>if !(e.within 1000000 0)then none else
    match sxC cfg x { st.qb e true with d:=st.d+1 },sxC cfg y { st.qb e false with d:=st.d+1 } with
    | some (.leaf (.norm a)),some (.leaf (.norm b))=>match HQ e a b st with
     | some s=>some (.leaf (.norm s))
     | none=>CG st (.br e (.leaf (.norm a)) (.leaf (.norm b)))
    | some a,some b=>CG st (.br e a b)
    | some a,none=>CG st (.br e a JF)
    | none,some b=>CG st (.br e JF b)
    | none,none=>none
  | none=>none
 | .block id c,st=>match sxC cfg c st with
  | some t=>t.bind fun | .exit id' s=>some (.leaf (if id'=id then .norm s else .exit id' s)) | l=>some (.leaf l)
  | none=>none
 | .loop c,st=>
  let key:=El c
  match cfg.hints.find? (·.key==key)with
  | none=>none
  | some hi=>
   match allM (YO st) hi.gen,
    allM (YP st) hi.cells with
   | some gs,some cs=>
    let p:Plan:={ gen:=gs,cells:=cs,junk:=hi.junk,cjunk:=[] }
    let tgt:=p.st st st.n st.loc.length st.known (st.d+1)
    match p.vals st with
    | none=>none
    | some init=>if !p.fits st tgt st.n st.loc.length then none else
     match sxC cfg c tgt with
     | none=>none
     | some t=>match JE t fun s=>if p.fits s tgt st.n st.loc.length then(p.vals s).map (.cont st.d)else none with
      | some b=>some (.loop p.shs init b)
      | none=>none
   | _,_=>none
 | .exit id,st=>some (.leaf (.exit id st))
 | .scope c,st=>sxC cfg c st
 | .ret,st=>RL cfg st
 | _,_=>none
def sxF(cfg:Cfg)(fn:Func)(ps:List (Bool×List Sh)):Option Tr:=
 let args:List GV:=(zk 0 ps).map fun(a,cs)=>⟨[],if a then .agg cs else match cs with | [c]=>.x c | _=>.junk⟩
 let st:St:={ tmps:=args++List.replicate (fn.ntmps-args.length) ⟨[],.junk⟩,loc:=[],n:=(zn ps).length,known:=[],d:=0 }
 match fn.body with
 | none=>none
 | some c=>match sxC cfg c st with
  | none=>none
  | some t=>t.bind fun | .norm s=>RL cfg s | .exit _ _=>none
end Go.Eng
namespace Go.Eng
open Go
abbrev Kt:=List Value->Heap->Prop
abbrev Hand:=Lf->List Value->Heap->List Kt->Prop
def zy:List Sh->(List Value->Prop)->Prop
 | [],p=>p []
 | .int k::r,p=>∃x:Int,zy r fun vs=>p (.int k x::vs)
 | .bool::r,p=>∃x:Bool,zy r fun vs=>p (.bool x::vs)
 | .slice::r,p=>∃(a:Option Addr) (l c:Nat),zy r fun vs=>p (.slice a l c::vs)
 | .ptr::r,p=>∃a:Option Addr,zy r fun vs=>p (.pointer a::vs)
 | .addr::r,p=>∃a:Addr,zy r fun vs=>p (.pointer (some a)::vs)
 | .iface::r,p=>∃v:Value,kv v=v/\zy r fun vs=>p (v::vs)
 | .fnv::r,p=>∃v:Value,Aj v=v/\zy r fun vs=>p (v::vs)
 | .str::r,p=>∃x:ByteArray,zy r fun vs=>p (.string x::vs)
 | .any::r,p=>∃v:Value,zy r fun vs=>p (v::vs)
def zV:List Sh->(List Value->Prop)->Prop
 | [],p=>p []
 | .int k::r,p=>∀x:Int,zV r fun vs=>p (.int k x::vs)
 | .bool::r,p=>∀x:Bool,zV r fun vs=>p (.bool x::vs)
 | .slice::r,p=>∀(a:Option Addr) (l c:Nat),zV r fun vs=>p (.slice a l c::vs)
 | .ptr::r,p=>∀a:Option Addr,zV r fun vs=>p (.pointer a::vs)
 | .addr::r,p=>∀a:Addr,zV r fun vs=>p (.pointer (some a)::vs)
 | .iface::r,p=>∀v:Value,kv v=v->zV r fun vs=>p (v::vs)
 | .fnv::r,p=>∀v:Value,Aj v=v->zV r fun vs=>p (v::vs)
 | .str::r,p=>∀x:ByteArray,zV r fun vs=>p (.string x::vs)
 | .any::r,p=>∀v:Value,zV r fun vs=>p (v::vs)
def jv:List Sh->List Value->Prop
 | [],[]=>True
 | s::r,v::vs=>coerce s v=v/\jv r vs
 | _,_=>False
theorem ky(shs:List Sh):∀p,zy shs p<->∃vs,jv shs vs/\p vs:=by
 induction shs with
 | nil=>exact fun p=>⟨fun h=>⟨[],trivial,h⟩,fun⟨vs,h1,h2⟩=>by cases vs <;> simp_all [jv,zy]⟩
 | cons s r ih=>
  intro p;constructor
  ·intro h;cases s <;> simp only[zy,ih]at h
   case int k=>obtain⟨x,vs,h1,h2⟩:=h;exact⟨.int k x::vs,⟨rfl,h1⟩,h2⟩
   case bool=>obtain⟨x,vs,h1,h2⟩:=h;exact⟨.bool x::vs,⟨rfl,h1⟩,h2⟩
   case slice=>obtain⟨a,l,c,vs,h1,h2⟩:=h;exact⟨.slice a l c::vs,⟨rfl,h1⟩,h2⟩
   case ptr=>obtain⟨x,vs,h1,h2⟩:=h;exact⟨.pointer x::vs,⟨rfl,h1⟩,h2⟩
   case addr=>obtain⟨x,vs,h1,h2⟩:=h;exact⟨.pointer (some x)::vs,⟨rfl,h1⟩,h2⟩
   case iface=>obtain⟨v,hv,vs,h1,h2⟩:=h;exact⟨v::vs,⟨hv,h1⟩,h2⟩
   case fnv=>obtain⟨v,hv,vs,h1,h2⟩:=h;exact⟨v::vs,⟨hv,h1⟩,h2⟩
   case str=>obtain⟨x,vs,h1,h2⟩:=h;exact⟨.string x::vs,⟨rfl,h1⟩,h2⟩
   case any=>obtain⟨v,vs,h1,h2⟩:=h;exact⟨v::vs,⟨rfl,h1⟩,h2⟩
  ·rintro⟨vs,h1,h2⟩;cases vs with
   | nil=>exact h1.elim
   | cons v vs=>
    obtain⟨hv,h1⟩:=h1;cases s <;> simp only[zy,ih]
    case int k=>exact⟨toInt v,vs,h1,by rw[show Value.int k (toInt v)=v from hv];exact h2⟩
    case bool=>exact⟨toBool v,vs,h1,by rw[show Value.bool (toBool v)=v from hv];exact h2⟩
    case slice=>exact⟨slA v,slL v,slC v,vs,h1,by rw[show Value.slice (slA v) (slL v) (slC v)=v from hv];exact h2⟩
    case ptr=>exact⟨kZ v,vs,h1,by rw[show Value.pointer (kZ v)=v from hv];exact h2⟩
    case addr=>exact⟨xz v,vs,h1,by rw[show Value.pointer (some (xz v))=v from hv];exact h2⟩
    case iface=>exact⟨v,hv,vs,h1,h2⟩
    case fnv=>exact⟨v,hv,vs,h1,h2⟩
    case str=>exact⟨CV v,vs,h1,by rw[show Value.string (CV v)=v from hv];exact h2⟩
    case any=>exact⟨v,vs,h1,h2⟩
theorem BS(shs:List Sh):∀p,zV shs p<->∀vs,jv shs vs->p vs:=by
 induction shs with
 | nil=>exact fun p=>⟨fun h vs h1=>by cases vs <;> simp_all [jv,zV],fun h=>h [] trivial⟩
 | cons s r ih=>
  intro p;constructor
  ·intro h vs h1;cases vs with
   | nil=>exact h1.elim
   | cons v vs=>
    obtain⟨hv,h1⟩:=h1;cases s <;> simp only[zV,ih]at h
    case int k=>have:=h (toInt v) vs h1;rwa[show Value.int k (toInt v)=v from hv]at this
    case bool=>have:=h (toBool v) vs h1;rwa[show Value.bool (toBool v)=v from hv]at this
    case slice=>have:=h (slA v) (slL v) (slC v) vs h1;rwa[show Value.slice (slA v) (slL v) (slC v)=v from hv]at this
    case ptr=>have:=h (kZ v) vs h1;rwa[show Value.pointer (kZ v)=v from hv]at this
    case addr=>have:=h (xz v) vs h1;rwa[show Value.pointer (some (xz v))=v from hv]at this
    case iface=>exact h v hv vs h1
    case fnv=>exact h v hv vs h1
    case str=>have:=h (CV v) vs h1;rwa[show Value.string (CV v)=v from hv]at this
    case any=>exact h v vs h1
  ·intro h;cases s <;> simp only[zV,ih]
   case int k=>exact fun x vs h1=>h _ ⟨rfl,h1⟩
   case bool=>exact fun x vs h1=>h _ ⟨rfl,h1⟩
   case slice=>exact fun a l c vs h1=>h _ ⟨rfl,h1⟩
   case ptr=>exact fun x vs h1=>h _ ⟨rfl,h1⟩
   case addr=>exact fun x vs h1=>h _ ⟨rfl,h1⟩
   case iface=>exact fun v hv vs h1=>h _ ⟨hv,h1⟩
   case fnv=>exact fun v hv vs h1=>h _ ⟨hv,h1⟩
   case str=>exact fun v vs h1=>h _ ⟨rfl,h1⟩
   case any=>exact fun v vs h1=>h _ ⟨rfl,h1⟩
def upd(h:Heap)(b:Nat)(o:Obj):Heap:=fun x=>if x=b then some o else h x
def yN(h:Heap)(a:Addr):Bool:=
 match h a.block with
 | some (.cells _ _ (lo,hi))=>lo<=a.off&&a.off<hi
 | _=>false
def zQ(h:Heap)(a:Addr)(v:Value):Heap:=fun x=>if x=a.block then(match h x with
 | some (.cells c e f)=>some (.cells (if a.spot.isSome then c else c.setIfInBounds a.off v) e f)
 | o=>o)else h x
def xE(S:Shared)(h:Heap)(a:Addr):Prop:=(∃u,zj h a=some u)/\yN h a=false/\¬S a.block
def zq(h:Heap)(a:Addr):Nat->List Value->Prop
 | _,[]=>True
 | i,v::r=>zj h (a.add i)=some v/\zq h a (i+1) r
def yk(S:Shared)(a:Addr):Nat->List Value->Heap->(Heap->Prop)->Prop
 | _,[],h,K=>K h
 | i,v::r,h,K=>xE S h (a.add i)/\yk S a (i+1) r (zQ h (a.add i) v) K
def Bt(v:Value):Prop:=v.cells=#[v]/\(∀x,v ≠ .tuple x)/\∀x,v ≠ .agg x
def qc(h:Heap)(a:Option Addr)(ys:List Value):Prop:=match a with | none=>ys=[] | some a=>zq h a 0 ys
def appW(S:Shared)(ty:TypeId)(sz byt:Nat)(z:List Value)(s x:Value)(h:Heap)(K:Value->Heap->Prop):Prop:=
 ∃ys:List Value,ys.length=slL x*sz/\qc h (slA x) ys/\(∀v∈ys,Bt v) /\
  (slL s+slL x<=slC s->match slA s with
   | some a=>yk S (a.add (slL s*sz)) 0 ys h (K (.slice (some a) (slL s+slL x) (slC s)))
   | none=>K (.slice none (slL s+slL x) (slC s)) h) /\
  (slC s<slL s+slL x->Builtin.nextslicecap (slL s+slL x) (slC s)*byt<=2^48/\∃os:List Value,os.length=slL s*sz/\qc h (slA s) os /\
   ∀nc b,slL s+slL x<=nc->h b=none ->
    K (.slice (some ⟨b,0,none⟩) (slL s+slL x) nc) (upd h b (.cells (os.toArray++ys.toArray++Builtin.zeroCells z.toArray (nc-(slL s+slL x))) ty)))
def yl(n:Nat)(z:Array Value):Array Value:=(Array.range n).map (z[· % z.size]!)
def Fx(ty:TypeId)(sz byt:Nat)(z:List Value)(l c:Value)(h:Heap)(K:Value->Heap->Prop):Prop:=
 0<=IntKind.i64.wrap (toInt l)/\IntKind.i64.wrap (toInt l)<=IntKind.i64.wrap (toInt c)/\byt*IntKind.i64.wrap (toInt c)<=2^48 /\
  ∀b,h b=none->K (.slice (some ⟨b,0,none⟩) (IntKind.i64.wrap (toInt l)).toNat (IntKind.i64.wrap (toInt c)).toNat)
   (upd h b (.cells (yl ((IntKind.i64.wrap (toInt c)).toNat*sz) z.toArray) ty))
def SV.den(env:List Value):SV->Value
 | .junk=>undef
 | .x e=>e.ev env []
 | .agg cs=>.agg (cs.map (Ex.ev env [])).toArray
 | .tup cs=>.tuple (cs.map fun c=>if c.1 then Value.agg (c.2.map (Ex.ev env [])).toArray else match c.2 with | [e]=>e.ev env [] | _=>undef).toArray
def zL(tup:Bool)(res:List (Bool×List Sh))(vs:List Value):Value:=(zz 0 tup res).den vs
def z4(P:Program)(S:Shared)(f:FuncId)(args:Array Value)(tup:Bool)(res:List (Bool×List Sh))(h:Heap)(K:List Value->Heap->Prop):Prop:=
 zb P S f args h fun v h'=>zy (zn res) fun vs=>v=zL tup res vs/\K vs h'
def yF(env:List Value)(cs:List (Nat×Ex)):List Value:=cs.flatMap fun c=>List.replicate c.1 (c.2.ev env [])
def Tr.wp(P:Program)(S:Shared)(Λ:Hand)(Q:Value->Heap->Prop)(t:Tr):List Value->Heap->List Kt->Prop:=
 match t with
 | .ret v=>fun env h _=>Q (v.den env) h
 | .need e t=>fun env h Ks=>toBool (e.ev env [])=true/\t.wp P S Λ Q env h Ks
 | .br e a b=>fun env h Ks=>(toBool (e.ev env [])=true->a.wp P S Λ Q env h Ks)/\(toBool (e.ev env [])=false->b.wp P S Λ Q env h Ks)
 | .load a shs t=>fun env h Ks=>zy shs fun vs=>zq h (xz (a.ev env [])) 0 vs/\t.wp P S Λ Q (env++vs) h Ks
 | .still ps t=>fun env h Ks=>(∀p:Ex×Ex,p∈ps->zj h (xz (p.1.ev env []))=some (p.2.ev env []))/\t.wp P S Λ Q env h Ks
 | .hsto a cs t=>fun env h Ks=>yk S (xz (a.ev env [])) 0 (cs.map (Ex.ev env [])) h fun h'=>t.wp P S Λ Q env h' Ks
 | .hall ty cs t=>fun env h Ks=>∀b,h b=none->t.wp P S Λ Q (env++[.pointer (some ⟨b,0,none⟩)]) (upd h b (.cells (yF env cs).toArray ty)) Ks
 | .hsl ty len cs t=>fun env h Ks=>∀b,h b=none->t.wp P S Λ Q (env++[.slice (some ⟨b,0,none⟩) len len]) (upd h b (.cells (cs.map (Ex.ev env [])).toArray ty)) Ks
 | .mks ty sz byt z l c t=>fun env h Ks=>Fx ty sz byt (z.map Cst.val) (l.ev env []) (c.ev env []) h fun v h'=>t.wp P S Λ Q (env++[v]) h' Ks
 | .app ty sz byt z s x t=>fun env h Ks=>appW S ty sz byt (z.map Cst.val) (s.ev env []) (x.ev env []) h fun v h'=>t.wp P S Λ Q (env++[v]) h' Ks
 | .call f args tup res t=>fun env h Ks=>z4 P S f (args.map (SV.den env)).toArray tup res h fun vs h'=>t.wp P S Λ Q (env++vs) h' Ks
 | .callv f args tup res t=>fun env h Ks=>∃(g:FuncId) (first cap:Array Value),f.ev env []=.func (.func g) first cap /\
   z4 P S g (first++(args.map (SV.den env)).toArray++cap) tup res h fun vs h'=>t.wp P S Λ Q (env++vs) h' Ks
 | .calli r name args tup res t=>fun env h Ks=>∃(ty:TypeId) (v:Value) (g:FuncId) (rv:Value),r.ev env []=.iface ty v/\wV P (method (P.types.size+Made.depth) ty v name)=some (g,rv) /\
   z4 P S g (#[rv]++(args.map (SV.den env)).toArray) tup res h fun vs h'=>t.wp P S Λ Q (env++vs) h' Ks
 | .loop shs init body=>fun env h Ks=>∃(I:List Value->Heap->Prop) (μ:List Value->Heap->Nat),I (init.map (Ex.ev env [])) h /\
   zV shs fun vs=>∀h',I vs h'->body.wp P S Λ Q (env++vs) h' (Ks++[(fun us h''=>I us h''/\μ us h''<μ vs h':Kt)])
 | .cont d vals=>fun env h Ks=>match Ks[d]? with | some K=>K (vals.map (Ex.ev env [])) h | none=>False
 | .join shs arms rest=>fun env h Ks=>arms.wp P S Λ Q env h (Ks++[fun us h'=>jv shs us->rest.wp P S Λ Q (env++us) h' Ks])
 | .strc s t=>fun env h Ks=>∃ys:List Int,ys.length=slL (s.ev env [])/\qc h (slA (s.ev env [])) (ys.map (Value.int .u8))/\t.wp P S Λ Q (env++[.string (strOf ys)]) h Ks
 | .mrk s t=>fun env h Ks=>∃(a:Addr) (l c:Nat) (cs:Array Value) (T:TypeId),s.ev env []=.slice (some a) l c/\h a.block=some (.cells cs T)/\¬S a.block/\t.wp P S Λ Q env (upd h a.block (.cells cs T (cs.size,cs.size+1))) Ks
 | .lift t=>fun env h Ks=>t.wp P S Λ Q env h (Ks++[(fun _ _=>False:Kt)])
 | .both a b=>fun env h Ks=>a.wp P S Λ Q env h Ks/\b.wp P S Λ Q env h Ks
 | .leaf l=>fun env h Ks=>Λ l env h Ks
variable {S:Shared}
theorem BH{a:Addr}:∀ {vs:List Value} {i:Nat} {h:Heap} {K K':Heap->Prop},yk S a i vs h K->(∀h,K h->K' h)->yk S a i vs h K'
 | [],_,_,_,_,H,hk=>hk _ H
 | _::_,_,_,_,_,⟨h1,H⟩,hk=>⟨h1,BH H hk⟩
variable {h:Heap}
theorem MD{ty:TypeId}{sz byt:Nat}{z:List Value}{s x:Value}{K K':Value->Heap->Prop}(H:appW S ty sz byt z s x h K)(hk:∀v h,K v h->K' v h) :
  appW S ty sz byt z s x h K':=by
 obtain⟨ys,h1,h2,h0,h3,h4⟩:=H;refine⟨ys,h1,h2,h0,fun hle=>?_,fun hlt=>?_⟩
 ·have:=h3 hle;cases he:slA s with
  | some a=>rw[he]at this;exact BH this fun h hh=>hk _ _ hh
  | none=>rw[he]at this;exact hk _ _ this
 ·obtain⟨h5,os,h6,h7,h8⟩:=h4 hlt;exact⟨h5,os,h6,h7,fun nc b hn hb=>hk _ _ (h8 nc b hn hb)⟩
variable {P:Program}
theorem wE{f:FuncId}{args:Array Value}{tup:Bool}{res:List (Bool×List Sh)}{K K':List Value->Heap->Prop}
  (H:z4 P S f args tup res h K)(hk:∀v h,K v h->K' v h):z4 P S f args tup res h K':=
 zb.mono H fun v h' hv=>(ky _ _).2 <| let⟨vs,h1,h2,h3⟩:=(ky _ _).1 hv;⟨vs,h1,h2,hk _ _ h3⟩
def KLe(A B:List Kt):Prop:=A.length=B.length/\∀(i:Nat) (K K':Kt),A[i]? = some K->B[i]? = some K'->∀vs h,K vs h->K' vs h
theorem KLe.refl(A:List Kt):KLe A A:=⟨rfl,fun i K K' h1 h2 vs h H=>by rw[h1]at h2;cases h2;exact H⟩
theorem KLe.snoc{A B:List Kt}(H:KLe A B){K K':Kt}(hk:∀vs h,K vs h->K' vs h):KLe (A++[K]) (B++[K']):=by
 refine⟨by simp[H.1],fun i X Y h1 h2 vs h hx=>?_⟩;by_cases hi:i<A.length
 ·rw[List.getElem?_append_left hi]at h1;rw[List.getElem?_append_left (H.1▸hi)]at h2;exact H.2 i X Y h1 h2 vs h hx
 ·rw[List.getElem?_append_right (by omega)]at h1;rw[List.getElem?_append_right (by have:=H.1;omega)]at h2;by_cases he:i-A.length=0
  ·rw[he]at h1;rw[show i-B.length=0 by have:=H.1;omega]at h2;simp at h1 h2;subst h1 h2;exact hk _ _ hx
  ·rw[List.getElem?_eq_none (by simp;omega)]at h1;cases h1
theorem Tr.wp_mono{Λ Λ':Hand}{Q Q':Value->Heap->Prop}(hq:∀v h,Q v h->Q' v h)(t:Tr) :
  ∀(env:List Value) (h:Heap) (Ks Ks':List Kt),KLe Ks Ks'->t.wp P S Λ Q env h Ks ->
   (∀l env h A B,KLe (Ks++A) (Ks'++B)->Λ l env h (Ks++A)->Λ' l env h (Ks'++B))->t.wp P S Λ' Q' env h Ks':=by
 induction t with
 | ret v=>intro env h Ks Ks' _ H _;exact hq _ _ H
 | need e t ih=>intro env h Ks Ks' hk H hl;exact⟨H.1,ih _ _ _ _ hk H.2 hl⟩
 | br e a b iha ihb=>intro env h Ks Ks' hk H hl;exact⟨fun c=>iha _ _ _ _ hk (H.1 c) hl,fun c=>ihb _ _ _ _ hk (H.2 c) hl⟩
 | both a b iha ihb=>intro env h Ks Ks' hk H hl;exact⟨iha _ _ _ _ hk H.1 hl,ihb _ _ _ _ hk H.2 hl⟩
 | load a shs t ih=>
  intro env h Ks Ks' hk H hl;obtain⟨vs,h1,h2,h3⟩:=(ky _ _).1 H;exact(ky _ _).2 ⟨vs,h1,h2,ih _ _ _ _ hk h3 hl⟩
 | still ps t ih=>intro env h Ks Ks' hk H hl;exact⟨H.1,ih _ _ _ _ hk H.2 hl⟩
 | hsto a cs t ih=>intro env h Ks Ks' hk H hl;exact BH H fun h' hh=>ih _ _ _ _ hk hh hl
 | hall ty cs t ih=>intro env h Ks Ks' hk H hl;exact fun b hb=>ih _ _ _ _ hk (H b hb) hl
 | hsl ty len cs t ih=>intro env h Ks Ks' hk H hl;exact fun b hb=>ih _ _ _ _ hk (H b hb) hl
 | mrk s t ih=>intro env h Ks Ks' hk H hl;obtain⟨a,l,c,cs,T,h1,h2,h3,h4⟩:=H;exact⟨a,l,c,cs,T,h1,h2,h3,ih _ _ _ _ hk h4 hl⟩
 | mks ty sz byt z l c t ih=>intro env h Ks Ks' hk H hl;exact⟨H.1,H.2.1,H.2.2.1,fun b hb=>ih _ _ _ _ hk (H.2.2.2 b hb) hl⟩
 | app ty sz byt z s x t ih=>intro env h Ks Ks' hk H hl;simp only[Tr.wp]at H ⊢;exact MD H fun v h' hh=>ih _ _ _ _ hk hh hl
 | call f args tup res t ih=>intro env h Ks Ks' hk H hl;exact wE H fun v h' hh=>ih _ _ _ _ hk hh hl
 | callv f args tup res t ih=>
  intro env h Ks Ks' hk H hl;obtain⟨g,first,cap,h1,h2⟩:=H;exact⟨g,first,cap,h1,wE h2 fun v h' hh=>ih _ _ _ _ hk hh hl⟩
 | calli f name args tup res t ih=>
  intro env h Ks Ks' hk H hl;obtain⟨ty,v,g,rv,h1,h2,h3⟩:=H;exact⟨ty,v,g,rv,h1,h2,wE h3 fun v h' hh=>ih _ _ _ _ hk hh hl⟩
 | loop shs init body ih=>
  intro env h Ks Ks' hk H hl;obtain⟨I,μ,h1,h2⟩:=H;refine⟨I,μ,h1,(BS _ _).2 fun vs hv h' hi=>ih _ _ _ _ (hk.snoc fun _ _ h=>h) ((BS _ _).1 h2 vs hv h' hi) fun l env h A B hab hh=>?_⟩;rw[List.append_assoc]at hh hab ⊢;rw[List.append_assoc]at hab;exact hl l env h _ _ hab hh
 | cont d vals=>
  intro env h Ks Ks' hk H hl;simp only[Tr.wp]at H ⊢;cases h1:Ks[d]? with
  | none=>rw[h1]at H;exact H.elim
  | some K=>
   rw[h1]at H;have hd:d<Ks'.length:=hk.1▸(List.getElem?_eq_some_iff.1 h1).1;rw[List.getElem?_eq_getElem hd];exact hk.2 d K _ h1 (List.getElem?_eq_getElem hd) _ _ H
 | join shs arms rest iha ihr=>
  intro env h Ks Ks' hk H hl;refine iha _ _ _ _ (hk.snoc fun us h' hr hs=>ihr _ _ _ _ hk (hr hs) hl) H fun l env h A B hab hh=>?_
  rw[List.append_assoc]at hh hab ⊢;rw[List.append_assoc]at hab;exact hl l env h _ _ hab hh
 | strc a t ih=>
  intro env h Ks Ks' hk H hl;obtain⟨ys,h1,h2,h3⟩:=H;exact⟨ys,h1,h2,ih _ _ _ _ hk h3 hl⟩
 | lift t ih=>
  intro env h Ks Ks' hk H hl;refine ih _ _ _ _ (hk.snoc fun _ _ h=>h) H fun l env h A B hab hh=>?_
  rw[List.append_assoc]at hh hab ⊢;rw[List.append_assoc]at hab;exact hl l env h _ _ hab hh
 | leaf l=>
  intro env h Ks Ks' hk H hl;have:=hl l env h [] [] (by simpa using hk);simp only[vJ]at this;exact this H
theorem Tr.wp_bind{Λ:Hand}{Q:Value->Heap->Prop}{f:Lf->Option Tr}
  (hΛ:∀l env h A B,KLe A B->Λ l env h A->Λ l env h B)(t:Tr) :
  ∀(t':Tr),t.bind f=some t'->∀(env:List Value) (h:Heap) (Ks:List Kt),t'.wp P S Λ Q env h Ks->t.wp P S (fun l env h Ks=>∃u,f l=some u/\u.wp P S Λ Q env h Ks) Q env h Ks:=by
 have mono:∀(l:Lf) (env:List Value) (h:Heap) (A B:List Kt),KLe A B->(∃u,f l=some u/\u.wp P S Λ Q env h A)->∃u,f l=some u/\u.wp P S Λ Q env h B:=
  fun l env h A B hab ⟨u,h1,h2⟩=>⟨u,h1,u.wp_mono (fun _ _ h=>h) _ _ _ _ hab h2 fun l env h X Y hxy hh=>hΛ _ _ _ _ _ hxy hh⟩
 induction t with
 | ret v=>intro t' ht env h Ks H;cases ht;exact H
 | cont d v=>intro t' ht env h Ks H;cases ht;exact H
 | need e t ih=>intro t' ht env h Ks H;obtain⟨u,h1,rfl⟩:=Option.map_eq_some_iff.1 ht;exact⟨H.1,ih u h1 _ _ _ H.2⟩
 | br e a b iha ihb=>
  intro t' ht env h Ks H;simp only[Tr.bind]at ht;split at ht
  ·rename_i a' b' ha hb;cases ht
   exact⟨fun c=>iha _ ha _ _ _ (H.1 c),fun c=>ihb _ hb _ _ _ (H.2 c)⟩
  ·cases ht
 | both a b iha ihb=>
  intro t' ht env h Ks H;simp only[Tr.bind]at ht;split at ht
  ·rename_i a' b' ha hb;cases ht
   exact⟨iha _ ha _ _ _ H.1,ihb _ hb _ _ _ H.2⟩
  ·cases ht
 | load a shs t ih=>
  intro t' ht env h Ks H;obtain⟨u,h1,rfl⟩:=Option.map_eq_some_iff.1 ht;obtain⟨vs,g1,g2,g3⟩:=(ky _ _).1 H;exact(ky _ _).2 ⟨vs,g1,g2,ih u h1 _ _ _ g3⟩
 | still ps t ih=>intro t' ht env h Ks H;obtain⟨u,h1,rfl⟩:=Option.map_eq_some_iff.1 ht;exact⟨H.1,ih u h1 _ _ _ H.2⟩
 | hsto a cs t ih=>intro t' ht env h Ks H;obtain⟨u,h1,rfl⟩:=Option.map_eq_some_iff.1 ht;exact BH H fun h' hh=>ih u h1 _ _ _ hh
 | hall ty cs t ih=>intro t' ht env h Ks H;obtain⟨u,h1,rfl⟩:=Option.map_eq_some_iff.1 ht;exact fun b hb=>ih u h1 _ _ _ (H b hb)
 | hsl ty len cs t ih=>intro t' ht env h Ks H;obtain⟨u,h1,rfl⟩:=Option.map_eq_some_iff.1 ht;exact fun b hb=>ih u h1 _ _ _ (H b hb)
 | mrk s t ih=>intro t' ht env h Ks H;obtain⟨u,h1,rfl⟩:=Option.map_eq_some_iff.1 ht;obtain⟨a,l,c,cs,T,g1,g2,g3,g4⟩:=H;exact⟨a,l,c,cs,T,g1,g2,g3,ih u h1 _ _ _ g4⟩
 | mks ty sz byt z l c t ih=>intro t' ht env h Ks H;obtain⟨u,h1,rfl⟩:=Option.map_eq_some_iff.1 ht;exact⟨H.1,H.2.1,H.2.2.1,fun b hb=>ih u h1 _ _ _ (H.2.2.2 b hb)⟩
 | app ty sz byt z s x t ih=>intro t' ht env h Ks H;obtain⟨u,h1,rfl⟩:=Option.map_eq_some_iff.1 ht;simp only[Tr.wp]at H ⊢;exact MD H fun v h' hh=>ih u h1 _ _ _ hh
 | call g args tup res t ih=>intro t' ht env h Ks H;obtain⟨u,h1,rfl⟩:=Option.map_eq_some_iff.1 ht;exact wE H fun v h' hh=>ih u h1 _ _ _ hh
 | callv g args tup res t ih=>
  intro t' ht env h Ks H;obtain⟨u,h1,rfl⟩:=Option.map_eq_some_iff.1 ht;obtain⟨g,first,cap,g1,g2⟩:=H;exact⟨g,first,cap,g1,wE g2 fun v h' hh=>ih u h1 _ _ _ hh⟩
 | calli f name args tup res t ih=>
  intro t' ht env h Ks H;obtain⟨u,h1,rfl⟩:=Option.map_eq_some_iff.1 ht;obtain⟨ty,v,g,rv,g1,g2,g3⟩:=H;exact⟨ty,v,g,rv,g1,g2,wE g3 fun v h' hh=>ih u h1 _ _ _ hh⟩
 | loop shs init body ih=>
  intro t' ht env h Ks H;obtain⟨u,h1,rfl⟩:=Option.map_eq_some_iff.1 ht;obtain⟨I,μ,g1,g2⟩:=H;exact⟨I,μ,g1,(BS _ _).2 fun vs hv h' hi=>ih u h1 _ _ _ ((BS _ _).1 g2 vs hv h' hi)⟩
 | strc a t ih=>
  intro t' ht env h Ks H;obtain⟨u,h1,rfl⟩:=Option.map_eq_some_iff.1 ht;obtain⟨ys,g1,g2,g3⟩:=H;exact⟨ys,g1,g2,ih u h1 _ _ _ g3⟩
 | lift t ih=>intro t' ht env h Ks H;obtain⟨u,h1,rfl⟩:=Option.map_eq_some_iff.1 ht;exact ih u h1 _ _ _ H
 | join shs arms rest iha ihr=>
  intro t' ht env h Ks H;simp only[Tr.bind]at ht;split at ht
  ·rename_i a' b' ha hb;cases ht
   have:=iha _ ha _ _ _ H;exact arms.wp_mono (fun _ _ h=>h) _ _ _ _ ((KLe.refl Ks).snoc fun us h' hr hs=>ihr _ hb _ _ _ (hr hs)) this fun l env h A B hab hh=>mono _ _ _ _ _ hab hh
  ·cases ht
 | leaf l=>intro t' ht env h Ks H;exact⟨t',ht,H⟩
end Go.Eng
namespace Go.Eng
open Go
def Good(env:List Value)(nums:List Nat)(e:Ex)(u:Value):Prop:=∀xs ys,e.ev (env++xs) (nums++ys)=u
variable {env:List Value}{nums:List Nat}{e:Ex}{u:Value}
theorem Good.ext(H:Good env nums e u)(vs:List Value)(ms:List Nat):Good (env++vs) (nums++ms) e u:=fun xs ys=>by
 rw[List.append_assoc,List.append_assoc];exact H _ _
theorem Good.at(H:Good env nums e u):e.ev env nums=u:=by
 have:=H [] [];simpa using this
theorem Good.uniq{u v:Value}(H:Good env nums e u)(K:Good env nums e v):u=v:=H.at.symm.trans K.at
theorem IQ(env:List Value)(n:Nat)(nums nums':List Nat)(e:Ex):e.within n 0=true->e.ev env nums=e.ev env nums':=by
 induction e with
 | loc j off=>intro h;simp[Ex.within]at h
 | _=>simp_all [Ex.within,Ex.ev]
theorem G8(xs:List Value)(ys:List Nat)(e:Ex):∀ {n m:Nat},e.within n m=true->n<=env.length->m<=nums.length ->
  e.ev (env++xs) (nums++ys)=e.ev env nums:=by
 induction e with
 | var s i=>
  intro n m h hn hm;simp[Ex.within]at h;have hi:i<env.length:=by omega
  simp[Ex.ev,List.getElem?_append_left hi]
 | loc j off=>
  intro n m h hn hm;simp[Ex.within]at h;have hi:j<nums.length:=by omega
  simp[Ex.ev,List.getElem?_append_left hi]
 | cst c=>intros;rfl
 | glob g=>intros;rfl
 | nl=>intros;rfl
 | ar op k a b iha ihb=>intro n m h hn hm;simp[Ex.within]at h;simp only[Ex.ev,iha h.1 hn hm,ihb h.2 hn hm]
 | cm op a b iha ihb=>intro n m h hn hm;simp[Ex.within]at h;simp only[Ex.ev,iha h.1 hn hm,ihb h.2 hn hm]
 | bq a b iha ihb=>intro n m h hn hm;simp[Ex.within]at h;simp only[Ex.ev,iha h.1 hn hm,ihb h.2 hn hm]
 | sq a b iha ihb=>intro n m h hn hm;simp[Ex.within]at h;simp only[Ex.ev,iha h.1 hn hm,ihb h.2 hn hm]
 | an a b iha ihb=>intro n m h hn hm;simp[Ex.within]at h;simp only[Ex.ev,iha h.1 hn hm,ihb h.2 hn hm]
 | mn a b iha ihb=>intro n m h hn hm;simp[Ex.within]at h;simp only[Ex.ev,iha h.1 hn hm,ihb h.2 hn hm]
 | mx a b iha ihb=>intro n m h hn hm;simp[Ex.within]at h;simp only[Ex.ev,iha h.1 hn hm,ihb h.2 hn hm]
 | cs a b iha ihb=>intro n m h hn hm;simp[Ex.within]at h;simp only[Ex.ev,iha h.1 hn hm,ihb h.2 hn hm]
 | ix sz a b iha ihb=>intro n m h hn hm;simp[Ex.within]at h;simp only[Ex.ev,iha h.1 hn hm,ihb h.2 hn hm]
 | ia sz a b iha ihb=>intro n m h hn hm;simp[Ex.within]at h;simp only[Ex.ev,iha h.1 hn hm,ihb h.2 hn hm]
 | fn f a b iha ihb=>intro n m h hn hm;simp[Ex.within]at h;simp only[Ex.ev,iha h.1 hn hm,ihb h.2 hn hm]
 | nt a ih=>intro n m h hn hm;simp[Ex.within]at h;simp only[Ex.ev,ih h hn hm]
 | cv k a ih=>intro n m h hn hm;simp[Ex.within]at h;simp only[Ex.ev,ih h hn hm]
 | ln a ih=>intro n m h hn hm;simp[Ex.within]at h;simp only[Ex.ev,ih h hn hm]
 | cp a ih=>intro n m h hn hm;simp[Ex.within]at h;simp only[Ex.ev,ih h hn hm]
 | nz a ih=>intro n m h hn hm;simp[Ex.within]at h;simp only[Ex.ev,ih h hn hm]
 | fld a o ih=>intro n m h hn hm;simp[Ex.within]at h;simp only[Ex.ev,ih h hn hm]
 | ifc t a ih=>intro n m h hn hm;simp[Ex.within]at h;simp only[Ex.ev,ih h hn hm]
 | ag a ih=>intro n m h hn hm;simp[Ex.within]at h;simp only[Ex.ev,ih h hn hm]
 | nn a ih=>intro n m h hn hm;simp[Ex.within]at h;simp only[Ex.ev,ih h hn hm]
 | it c a b ihc iha ihb=>intro n m h hn hm;simp[Ex.within]at h;simp only[Ex.ev,ihc h.1.1 hn hm,iha h.1.2 hn hm,ihb h.2 hn hm]
 | sub sz s a b c ihs iha ihb ihc=>intro n m h hn hm;simp[Ex.within]at h;simp only[Ex.ev,ihs h.1.1.1 hn hm,iha h.1.1.2 hn hm,ihb h.1.2 hn hm,ihc h.2 hn hm]
 | sar k sz s a b c ihs iha ihb ihc=>intro n m h hn hm;simp[Ex.within]at h;simp only[Ex.ev,ihs h.1.1.1 hn hm,iha h.1.1.2 hn hm,ihb h.1.2 hn hm,ihc h.2 hn hm]
theorem zae(env:List Value)(nums:List Nat)(e:Ex):∀s,e.sh=some s->coerce s (e.ev env nums)=e.ev env nums:=by
 induction e with
 | var s i=>
  intro s' h;cases h
  have cc:∀v,coerce s (coerce s v)=coerce s v:=by
   intro v;cases s <;> simp[coerce,toInt,toBool,slA,slL,slC,kZ,xz,CV]
   ·cases v <;> rfl
   ·cases v <;> rfl
  exact cc _
 | cst c=>intro s h;cases c <;> (simp[Ex.sh,Cst.sh]at h;subst h;rfl)
 | it c a b _ iha ihb=>
  intro s h;simp only[Ex.sh]at h;split at h
  ·rename_i hab;simp only[Ex.ev];split
   ·exact iha s h
   ·exact ihb s (hab▸h)
  ·cases h
 | mn a b iha ihb=>
  intro s h;simp only[Ex.sh]at h;split at h
  ·rename_i hab;simp only[Ex.ev];split
   ·exact ihb s (hab▸h)
   ·exact iha s h
  ·cases h
 | mx a b iha ihb=>
  intro s h;simp only[Ex.sh]at h;split at h
  ·rename_i hab;simp only[Ex.ev];split
   ·exact ihb s (hab▸h)
   ·exact iha s h
  ·cases h
 | ag l _=>intro s h;simp[Ex.sh]at h
 | nl=>intro s h;simp[Ex.sh]at h
 | cs a b _ _=>intro s h;simp[Ex.sh]at h
 | sub sz s a b c _ _ _ _=>intro s h;cases h;rfl
 | sar k sz s a b c _ _ _ _=>intro s h;cases h;rfl
 | _=>intro s h;cases h;rfl
theorem Good.sh{s:Sh}(H:Good env nums e u)(h:e.sh=some s):coerce s u=u:=by
 rw[<-H.at];exact zae env nums e s h
theorem Good.int{k:IntKind}(H:Good env nums e u)(h:e.kI=some k):∃n,u=.int k n:=by
 unfold Ex.kI at h;split at h
 ·rename_i k' hs;cases h
  exact⟨toInt u,(H.sh hs).symm⟩
 ·cases h
theorem Good.bool(H:Good env nums e u)(h:e.isBool=true):∃b,u=.bool b:=by
 have hs:e.sh=some .bool:=by simpa[Ex.isBool]using h
 exact⟨toBool u,(H.sh hs).symm⟩
theorem Good.slice(H:Good env nums e u)(h:e.sh=some .slice):∃a l c,u=.slice a l c:=
 ⟨slA u,slL u,slC u,(H.sh h).symm⟩
theorem Good.addr(H:Good env nums e u)(h:e.qO=true):∃a,u=.pointer (some a):=by
 have:e.sh=some .addr:=by
  cases e <;> simp_all [Ex.qO,Ex.sh]
  rename_i s i;cases s <;> simp_all
 exact⟨xz u,(H.sh this).symm⟩
def zY(env:List Value)(nums:List Nat):List Ex->List Value->Prop
 | [],[]=>True
 | e::es,u::us=>Good env nums e u/\zY env nums es us
 | _,_=>False
theorem zY.ext:∀ {es:List Ex} {us:List Value},zY env nums es us->∀(vs:List Value) (ms:List Nat),zY (env++vs) (nums++ms) es us
 | [],[],_,_,_=>trivial
 | _::_,_::_,h,vs,ms=>⟨h.1.ext vs ms,zY.ext h.2 vs ms⟩
theorem zY.len:∀ {es:List Ex} {us:List Value},zY env nums es us->es.length=us.length
 | [],[],_=>rfl
 | _::_,_::_,h=>by simp[zY.len h.2]
theorem zY.get:∀ {es:List Ex} {us:List Value},zY env nums es us->∀(i:Nat) (e:Ex),es[i]? = some e->∃u,us[i]? = some u/\Good env nums e u
 | [],[],_,i,e,h=>by simp at h
 | _::_,u::_,h,0,e,he=>by simp at he;subst he;exact⟨u,by simp,h.1⟩
 | _::_,_::_,h,i+1,e,he=>by simp at he;obtain⟨u,h1,h2⟩:=zY.get h.2 i e he;exact⟨u,by simpa using h1,h2⟩
theorem zY.map:∀ {es:List Ex} {us:List Value},zY env nums es us->es.map (Ex.ev env nums)=us
 | [],[],_=>rfl
 | _::_,_::_,h=>by simp[h.1.at,zY.map h.2]
theorem zY.G9:∀ {es:List Ex} {us:List Value},es.length=us.length->(∀(i:Nat) (e:Ex),es[i]? = some e->∃u,us[i]? = some u/\Good env nums e u)->zY env nums es us
 | [],[],_,_=>trivial
 | e::es,u::us,hl,h=>by
  refine⟨?_,zY.G9 (by simpa using hl) fun i x hx=>?_⟩
  ·obtain⟨v,h1,h2⟩:=h 0 e (by simp);simp at h1;subst h1;exact h2
  ·obtain⟨v,h1,h2⟩:=h (i+1) x (by simpa using hx);exact⟨v,by simpa using h1,h2⟩
 | [],_::_,hl,_=>by simp at hl
 | _::_,[],hl,_=>by simp at hl
theorem zY.append:∀ {es fs:List Ex} {us vs:List Value},zY env nums es us->zY env nums fs vs->zY env nums (es++fs) (us++vs)
 | [],_,[],_,_,h=>h
 | _::_,_,_::_,_,h,k=>⟨h.1,zY.append h.2 k⟩
variable {es:List Ex}{us:List Value}
theorem zY.set(H:zY env nums es us)(i:Nat)(h:Good env nums e u):zY env nums (es.set i e) (us.set i u):=by
 refine .G9 (by simp[H.len]) fun j x hx=>?_
 rw[List.getElem?_set]at hx ⊢;have hl:=H.len;split at hx
 ·rename_i hij;subst hij;split at hx
  ·cases hx
   rename_i hlt;exact⟨u,by rw[if_pos rfl,if_pos (hl▸hlt)],h⟩
  ·cases hx
 ·rename_i hij;rw[if_neg hij];exact H.get j x hx
theorem zY.sub(H:zY env nums es us)(o n:Nat):zY env nums ((es.drop o).take n) ((us.drop o).take n):=by
 refine .G9 (by simp[H.len]) fun i e he=>?_
 rw[List.getElem?_take]at he ⊢;split at he
 ·rename_i hlt;rw[if_pos hlt];rw[List.getElem?_drop]at he ⊢;exact H.get _ _ he
 ·cases he
def j6(env:List Value)(nums:List Nat)(c:Bool×List Ex)(u:Value):Prop:=
 if c.1=true then ∃vs:List Value,u=.agg vs.toArray/\zY env nums c.2 vs else ∃e,c.2=[e]/\Good env nums e u
def Ad(env:List Value)(nums:List Nat):List (Bool×List Ex)->List Value->Prop
 | [],[]=>True
 | c::cs,u::us=>j6 env nums c u/\Ad env nums cs us
 | _,_=>False
theorem j6.ext{c:Bool×List Ex}(H:j6 env nums c u)(vs:List Value)(ms:List Nat):j6 (env++vs) (nums++ms) c u:=by
 unfold j6 at *;split at H
 ·rename_i h;rw[if_pos h];obtain⟨xs,h1,h2⟩:=H;exact⟨xs,h1,h2.ext _ _⟩
 ·rename_i h;rw[if_neg h];obtain⟨e,h1,h2⟩:=H;exact⟨e,h1,h2.ext _ _⟩
theorem Ad.ext:∀ {es:List (Bool×List Ex)} {us:List Value},Ad env nums es us->∀(vs:List Value) (ms:List Nat),Ad (env++vs) (nums++ms) es us
 | [],[],_,_,_=>trivial
 | _::_,_::_,h,vs,ms=>⟨h.1.ext vs ms,Ad.ext h.2 vs ms⟩
theorem Ad.get:∀ {es:List (Bool×List Ex)} {us:List Value},Ad env nums es us->∀(i:Nat) (e:Bool×List Ex),es[i]? = some e->∃u,us[i]? = some u/\j6 env nums e u
 | [],[],_,i,e,h=>by simp at h
 | _::_,u::_,h,0,e,he=>by simp at he;subst he;exact⟨u,by simp,h.1⟩
 | _::_,_::_,h,i+1,e,he=>by simp at he;obtain⟨u,h1,h2⟩:=Ad.get h.2 i e he;exact⟨u,by simpa using h1,h2⟩
def xU(env:List Value)(nums:List Nat):SV->Value->Prop
 | .junk,_=>True
 | .x e,u=>Good env nums e u
 | .agg cs,u=>∃us:List Value,u=.agg us.toArray/\zY env nums cs us
 | .tup cs,u=>∃us:List Value,u=.tuple us.toArray/\Ad env nums cs us
variable {v:SV}
theorem xU.ext(H:xU env nums v u)(vs:List Value)(ms:List Nat):xU (env++vs) (nums++ms) v u:=by
 cases v with
 | junk=>trivial
 | x e=>exact Good.ext H vs ms
 | agg cs=>obtain⟨us,h1,h2⟩:=H;exact⟨us,h1,h2.ext _ _⟩
 | tup cs=>obtain⟨us,h1,h2⟩:=H;exact⟨us,h1,h2.ext _ _⟩
structure Rel(st:St)(env:List Value)(nums:List Nat)(a:Act)(L:Heap):Prop where
 n:st.n=env.length
 m:st.loc.length=nums.length
 sz:st.tmps.length=a.tmps.size
 df:st.dv=false->a.defers=[]
 gd:∀(i:Nat) g v,st.tmps[i]? = some ⟨g,v⟩->∀e∈g,∃b,Good env nums e (.bool b)
 vl:∀(i:Nat) g v,st.tmps[i]? = some ⟨g,v⟩->(∀e∈g,Good env nums e (.bool true))->xU env nums v (a.tmps.getD i undef)
 uv:∀(i:Nat) g v,st.tmps[i]? = some ⟨g,v⟩->(∃e∈g,Good env nums e (.bool false))->a.tmps.getD i undef=undef
 bl:∀(j:Nat) T cs,st.loc[j]? = some (T,cs)->∃b,∃vs:List Value,nums[j]? = some b/\L b=some (.cells vs.toArray T)/\vs.length=cs.length /\
  ∀(o:Nat) e,cs[o]? = some (some e)->∃u,vs[o]? = some u/\Good env nums e u
 nd:nums.Nodup
 kn:∀e b,(e,b)∈st.known->Good env nums e (.bool b)
theorem xr{a b:Bool}(h:Value.bool a=.bool b):a=b:=by cases h;rfl
variable {a:Act}{L:Heap}
theorem Rel.more{st:St}(H:Rel st env nums a L)(vs:List Value):Rel { st with n:=st.n+vs.length } (env++vs) nums a L:=by
 have e0:nums=nums++[]:=by simp
 constructor
 ·simp[H.n]
 ·exact H.m
 ·exact H.sz
 ·exact H.df
 ·intro i g v h e he;obtain⟨b,hb⟩:=H.gd i g v h e he;exact⟨b,by rw[e0];exact hb.ext _ _⟩
 ·intro i g v h hg;rw[e0];refine(H.vl i g v h fun e he=>?_).ext _ _;obtain⟨b,hb⟩:=H.gd i g v h e he;have h1:=hb.ext vs [];rw[<-e0]at h1;have:=xr (h1.uniq (hg e he));subst this;exact hb
 ·rintro i g v h ⟨e,he,hf⟩;refine H.uv i g v h ⟨e,he,?_⟩;obtain⟨b,hb⟩:=H.gd i g v h e he;have h1:=hb.ext vs [];rw[<-e0]at h1;have:=xr (h1.uniq hf);subst this;exact hb
 ·intro j T cs h;obtain⟨b,vs',h1,h2,h3,h4⟩:=H.bl j T cs h;refine⟨b,vs',h1,h2,h3,fun o e he=>?_⟩;obtain⟨u,h5,h6⟩:=h4 o e he;exact⟨u,h5,by rw[e0];exact h6.ext _ _⟩
 ·exact H.nd
 ·exact fun e b h=>by rw[e0];exact(H.kn e b h).ext _ _
variable {b:Bool}
theorem Rel.qb{st:St}(H:Rel st env nums a L)(h:Good env nums e (.bool b)):Rel (st.qb e b) env nums a L:=
 ⟨H.n,H.m,H.sz,H.df,H.gd,H.vl,H.uv,H.bl,H.nd,fun e' b' h'=>by
  rcases List.mem_cons.1 h' with h1 | h1
  ·cases h1;exact h
  ·exact H.kn e' b' h1⟩
theorem Rel.level{st:St}(H:Rel st env nums a L)(d:Nat):Rel { st with d:=d } env nums a L:=
 ⟨H.n,H.m,H.sz,H.df,H.gd,H.vl,H.uv,H.bl,H.nd,H.kn⟩
theorem Rel.put{st:St}{env:List Value}{nums:List Nat}{a:Act}{L:Heap}(H:Rel st env nums a L)(dst:Option Tmp){G:List Ex}{v:SV}{u:Value}
  (hg:∀e∈G,∃b,Good env nums e (.bool b))(hv:(∀e∈G,Good env nums e (.bool true))->xU env nums v u)(hu:(∃e∈G,Good env nums e (.bool false))->u=undef):Rel (st.put dst ⟨G,v⟩) env nums (a.put dst u) L:=by
 cases dst with
 | none=>exact H
 | some d=>
  refine⟨H.n,H.m,by simp[St.put,Act.put,H.sz],H.df,?_,?_,?_,H.bl,H.nd,H.kn⟩
  ·intro i g x h;simp only[St.put]at h;rw[List.getElem?_set]at h;split at h
   ·split at h
    ·cases h;exact hg
    ·cases h
   ·exact H.gd i g x h
  ·intro i g x h hgt;simp only[St.put]at h;rw[List.getElem?_set]at h;simp only[Act.put];split at h
   ·rename_i hdi;subst hdi;split at h
    ·cases h
     rename_i hlt;rw[H.sz]at hlt;simp[hlt];exact hv hgt
    ·cases h
   ·rename_i hdi;have:=H.vl i g x h hgt;simpa[Array.getElem?_setIfInBounds_ne hdi]using this
  ·intro i g x h hgt;simp only[St.put]at h;rw[List.getElem?_set]at h;simp only[Act.put];split at h
   ·rename_i hdi;subst hdi;split at h
    ·cases h
     rename_i hlt;rw[H.sz]at hlt;simp[hlt];exact hu hgt
    ·cases h
   ·rename_i hdi;have:=H.uv i g x h hgt;simpa[Array.getElem?_setIfInBounds_ne hdi]using this
theorem DK{st:St}(H:Rel st env nums a L)(h:st.isTrue e=true):Good env nums e (.bool true):=
 H.kn e true (by simpa[St.isTrue]using h)
theorem Fy{st:St}(H:Rel st env nums a L)(h:st.isFalse e=true):Good env nums e (.bool false):=
 H.kn e false (by simpa[St.isFalse]using h)
theorem Cst.SS{v:Value}{c:Cst}(h:Cst.of v=some c):c.val=v:=by
 unfold Cst.of at h;split at h <;> simp at h <;> subst h <;> rfl
variable {G:List Ex}{o:Operand}
theorem qy{st:St}(H:Rel st env nums a L)(hG:∀e∈G,Good env nums e (.bool true))
  (h:st.get G o=some v):xU env nums v (a.eval o)/\v ≠ .junk:=by
 cases o with
 | tmp t=>
  simp only[St.get]at h;cases ht:st.tmps[t]? with
  | none=>rw[ht]at h;cases h
  | some gv=>
   obtain⟨g,x⟩:=gv;rw[ht]at h;simp only at h;split at h
   ·rename_i hall;have hgt:∀e∈g,Good env nums e (.bool true):=fun e he=>by
     have:=List.all_eq_true.1 hall e he;simp only[Bool.or_eq_true]at this;rcases this with h1 | h1
     ·exact hG e (by simpa using h1)
     ·exact DK H h1
    have:=H.vl t g x ht hgt;cases x with
    | junk=>cases h
    | x e=>cases h;exact⟨this,by simp⟩
    | agg cs=>cases h;exact⟨this,by simp⟩
    | tup cs=>cases h;exact⟨this,by simp⟩
   ·cases h
 | const u=>
  simp only[St.get]at h;obtain⟨c,hc,rfl⟩:=Option.map_eq_some_iff.1 h;exact⟨fun _ _=>by simp[Ex.ev,Act.eval,Cst.SS hc],by simp⟩
 | global g=>simp only[St.get]at h;cases h;exact⟨fun _ _=>rfl,by simp⟩
 | func f=>simp only[St.get]at h;cases h;exact⟨fun _ _=>rfl,by simp⟩
theorem x9{st:St}(H:Rel st env nums a L)(hG:∀e∈G,Good env nums e (.bool true))
  (h:st.ex G o=some e):Good env nums e (a.eval o):=by
 unfold St.ex at h;cases hg:st.get G o with
 | none=>rw[hg]at h;cases h
 | some v=>
  rw[hg]at h;cases v <;> simp at h
  subst h;exact(qy H hG hg).1
theorem GA(H:Good env nums e u)(hs:e.scalar=true):u.cells=#[u]:=by
 unfold Ex.scalar at hs;split at hs
 ·cases hs
 ·cases hs
 ·rename_i s hne hsome;have:=H.sh hsome;rw[<-this];cases s with
  | int k=>rfl
  | bool=>rfl
  | slice=>rfl
  | ptr=>rfl
  | addr=>rfl
  | iface=>simp only[coerce];cases u <;> rfl
  | fnv=>simp only[coerce];cases u <;> rfl
  | str=>rfl
  | any=>exact(hne rfl).elim
theorem IS{cs:List Ex}(H:xU env nums v u)(h:v.cells=some cs) :
  ∃us:List Value,u.cells=us.toArray/\zY env nums cs us:=by
 cases v with
 | junk=>cases h
 | tup cs=>cases h
 | x e=>
  simp only[SV.cells]at h;split at h
  ·rename_i hs;cases h
   exact⟨[u],GA H hs,H,trivial⟩
  ·cases h
 | agg l=>
  cases h
  obtain⟨us,rfl,h2⟩:=H;exact⟨us,rfl,h2⟩
theorem k6{st:St}(H:Rel st env nums a L)(hb:∃b,Good env nums e (.bool b))(h:ju st e=some b) :
  Good env nums e (.bool b):=by
 obtain⟨b0,h0⟩:=hb;have key:b=b0:=by
  have hnt:∀ {x:Ex} {c:Bool},Good env nums (.nt x) (.bool c)->∀ {d},Good env nums x (.bool d)->c = !d:=fun h1 d h2=>by
   have:=h1.at;simp[Ex.ev,h2.at,toBool]at this;simp[this]
  unfold ju at h;split at h
  ·rename_i h1;cases h;exact xr ((DK H h1).uniq h0)
  ·split at h
   ·rename_i h1;cases h;exact xr ((Fy H h1).uniq h0)
   ·split at h
    ·rename_i h1;cases h;have:=hnt (DK H h1) h0;cases b0 <;> first | rfl | cases this
    ·split at h
     ·rename_i h1;cases h;have:=hnt (Fy H h1) h0;cases b0 <;> first | rfl | cases this
     ·split at h
      ·rename_i x;split at h
       ·rename_i h1;cases h;exact(hnt h0 (DK H h1)).symm
       ·split at h
        ·rename_i h1;cases h;exact(hnt h0 (Fy H h1)).symm
        ·split at h
         ·rename_i c;cases h
          have:=h0.at;simpa[Ex.ev,Cst.val,toBool]using this
         ·cases h
      ·cases h
       have:=h0.at;simpa[Ex.ev,Cst.val]using this
      ·cases h
 rw[key];exact h0
end Go.Eng
namespace Go.Eng
open Go
variable {t:TypeId}{i:TypeInfo}{v:Value}{a:Addr}{w:World}{P:Program}{S:Shared}{H:Heap}{B:Nat}
section prims
theorem zp{α:Type}(a:α)(K:α->World->Prop):wpE P S H B (pure a) w K=K a w:=rfl
theorem zG{d:TypeDesc}(h:P.underlying t=some d)(K:TypeDesc->World->Prop):wpE P S H B (underlying t) w K<->K d w:=by
 simp only[underlying,zm,program,wpE,h,zp]
theorem kJ(h:P.info? t=some i)(K:TypeInfo->World->Prop):wpE P S H B (typeInfo t) w K<->K i w:=by
 simp only[typeInfo,zm,program,wpE,h,zp]
theorem xf(h:P.info? t=some i)(K:Nat->World->Prop):wpE P S H B (sizeOf t) w K<->K i.size w:=by
 simp only[sizeOf,zm,kJ h,zp]
theorem jW(h:P.info? t=some i)(hz:i.zero=some v)(K:Value->World->Prop):wpE P S H B (zeroValue t) w K<->K v w:=by
 simp only[zeroValue,zm,kJ h,hz,zp]
def wF:TypeDesc->Bool | .struct _ | .array _ _=>true | _=>false
theorem GB{d:TypeDesc}(h:P.underlying t=some d)(K:Bool->World->Prop):wpE P S H B (isAgg t) w K<->K (wF d) w:=by
 simp only[isAgg,zm,zG h];cases d <;> simp only[zp,wF]
theorem IT(hb:H a.block≠none\/B<=a.block)(hc:w.cell? a=some v)(K:Value->World->Prop)(hk:K v w):wpE P S H B (load a) w K:=
 ⟨rfl,hb,v,hc,hk⟩
theorem kE(vs:List Value):∀(i:Nat) (acc:Array Value),(∀(j:Nat) v,vs[j]? = some v->(H (a.add (i+j)).block≠none\/B<=(a.add (i+j)).block)/\w.cell? (a.add (i+j))=some v) ->
  ∀K:Array Value->World->Prop,K (acc++vs.toArray) w->wpE P S H B (loadCellsFrom a i vs.length acc) w K:=by
 induction vs with
 | nil=>intro i acc _ K hk;simpa[loadCellsFrom,zp]using hk
 | cons v r ih=>
  intro i acc h K hk;obtain⟨h1,h2⟩:=h 0 v (by simp);simp only[List.length_cons,loadCellsFrom,zm];refine IT h1 h2 _ (ih (i+1) (acc.push v) (fun j u hu=>?_) K ?_)
  ·have:=h (j+1) u (by simpa using hu);rwa[show i+1+j=i+(j+1) by omega]
  ·simpa using hk
end prims
variable {h:Heap}
theorem jw(hw:Has w h)(hc:zj h a=some v):w.cell? a=some v:=by
 unfold zj at hc;unfold World.cell?;split at hc
 ·rename_i c e f hb;rw[hw _ _ hb];exact hc
 ·cases hc
theorem jc(hc:zj h a=some v):h a.block≠none:=by
 unfold zj at hc;split at hc
 ·rename_i hb;rw[hb];simp
 ·cases hc
theorem add_block(a:Addr)(n:Nat):(a.add n).block=a.block:=by
 unfold Addr.add;split <;> rfl
theorem AG:∀ {vs:List Value} {i:Nat},zq h a i vs->∀(j:Nat) v,vs[j]? = some v->zj h (a.add (i+j))=some v
 | [],_,_,j,v,hv=>by simp at hv
 | _::_,i,H,0,v,hv=>by simp at hv;subst hv;exact H.1
 | _::_,i,H,j+1,v,hv=>by
  have:=AG H.2 j v (by simpa using hv);rwa[show i+1+j=i+(j+1) by omega]at this
def jN(desc:TypeDesc):TyK->Prop
 | .int k=>desc=.int k
 | .bool=>desc=.bool
 | .st fs=>∃F:Array Field,desc=.struct F/\F.toList.map (fun f=>(f.offset,f.type))=fs
 | .arr n e=>desc=.array n e
 | .sl e=>desc=.slice e
 | .ptr e=>desc=.pointer e
 | .ifc=>∃ms,desc=.interface ms
 | .fnk=>∃a b c,desc=.func a b c
 | .str=>desc=.string
 | .oth=>wF desc=false
structure Agr(P:Program)(t:TypeId)(d:TyD):Prop where
 u:∃desc,P.underlying t=some desc/\jN desc d.k
 i:∃i,P.info? t=some i/\i.size=d.sz/\i.bytes=d.byt/\∀z,d.z=some z->∃v,i.zero=some v/\v.cells=((jF z).map Cst.val).toArray
def zJ(P:Program)(tab:List (TypeId×TyD)):Prop:=∀t d,tab.lookup t=some d->Agr P t d
theorem Agr.agg{d:TyD}(H:Agr P t d):∃desc,P.underlying t=some desc/\wF desc=kH d.k:=by
 obtain⟨desc,h1,h2⟩:=H.u;refine⟨desc,h1,?_⟩;cases hk:d.k <;> rw[hk]at h2 <;> simp only[jN]at h2
 case int=>subst h2;rfl
 case bool=>subst h2;rfl
 case st=>obtain⟨F,rfl,_⟩:=h2;rfl
 case arr=>subst h2;rfl
 case sl=>subst h2;rfl
 case ptr=>subst h2;rfl
 case ifc=>obtain⟨ms,rfl⟩:=h2;rfl
 case fnk=>obtain⟨a,b,c,rfl⟩:=h2;rfl
 case str=>subst h2;rfl
 case oth=>exact h2
variable {ix x y:Operand}{e xt yt:TypeId}{k k':IntKind}{m n:Int}{c d f l:Nat}{p q:Bool}{as:Array Operand}{ats:Array TypeId}{hi' lo' m':Option Int}
section ops
variable {ρ:Operand -> Value}{o:Oper}
theorem SU(ho:o.op=.move x\/o.op=.assign x):execOp ρ o=Sem.pure (.value (ρ x)):=by
 rcases ho with h | h <;> simp only[execOp,h] <;> rfl
theorem Fz{op:BinOp}(ho:o.op=.binOp op xt x y yt)(hx:ρ x=.int k m)(hy:ρ y=.int k' n)
  (hsh:op=.shl\/op=.shr->0<=n)(hk:¬(op=.shl\/op=.shr)->k=k')(hc:HK op=false)(hd:op=.quo\/op=.rem->n≠0) :
  execOp ρ o=Sem.pure (.value (.int k (arith op k m n))):=by
 simp only[execOp,ho,hx,hy];cases op
 case shl=>have:=hsh (.inl rfl);simp[eqGuard,binOp,Op.shift,arith,Int.not_lt.2 this,bind,pure,Sem.bind]
 case shr=>have:=hsh (.inr rfl);simp[eqGuard,binOp,Op.shift,arith,Int.not_lt.2 this,bind,pure,Sem.bind]
 case quo=>obtain rfl:=hk (by simp);have:=hd (.inl rfl);simp[eqGuard,binOp,Op.intDiv,arith,this,bind,pure,Sem.bind]
 case rem=>obtain rfl:=hk (by simp);have:=hd (.inr rfl);simp[eqGuard,binOp,Op.intDiv,arith,this,bind,pure,Sem.bind]
 all_goals first
  | (simp[HK]at hc;done)
  | (obtain rfl:=hk (by simp);simp[eqGuard,binOp,Op.intArith,Op.intBits,arith,Go.bits,bind,pure,Sem.bind])
theorem Vf{op:BinOp}(ho:o.op=.binOp op xt x y yt)(hx:ρ x=.int k m)(hy:ρ y=.int k n)
  (hc:HK op=true):execOp ρ o=Sem.pure (.value (.bool (z9 op m n))):=by
 simp only[execOp,ho,hx,hy];cases op <;> first
  | (simp[HK]at hc;done)
  | (simp[eqGuard,binOp,Op.intCmp,z9,bind,pure,Sem.bind])
theorem RM{op:BinOp}{p q:ByteArray}(ho:o.op=.binOp op xt x y yt)(hx:ρ x=.string p)(hy:ρ y=.string q)(hop:op=.eql\/op=.neq) :
  execOp ρ o=Sem.pure (.value (.bool (if op=.eql then p.toList==q.toList else !(p.toList==q.toList)))):=by
 simp only[execOp,ho,hx,hy];rcases hop with rfl | rfl <;> simp[eqGuard,binOp,Op.stringOp,bind,pure,Sem.bind]
theorem Vg{b:Bool}(ho:o.op=.unOp .not xt x)(hx:ρ x=.bool b):execOp ρ o=Sem.pure (.value (.bool (!b))):=by
 simp[execOp,ho,hx,Op.unary,bind,pure,Sem.bind]
theorem Vh(ho:o.op=.unOp .neg xt x)(hx:ρ x=.int k n):execOp ρ o=Sem.pure (.value (.int k (arith .sub k 0 n))):=by
 simp[execOp,ho,hx,Op.unary,Op.intArith,arith,bind,pure,Sem.bind]
theorem Vi(ho:o.op=.unOp .xor xt x)(hx:ρ x=.int k n) :
  execOp ρ o=Sem.pure (.value (.int k (arith .xor k (if k.signed then -1 else k.max) n))):=by
 simp[execOp,ho,hx,Op.unary,Op.intBits,arith,Go.bits,bind,pure,Sem.bind]
variable {K:Next -> World -> Prop}
theorem Oq{src dst:TypeId}{d:TypeDesc}(ho:o.op=.convert src dst x)(hx:ρ x=.int k n)(hs:P.underlying src=some d)
  (hd:P.underlying dst=some (.int k'))(hk:K (.value (.int k' (k'.wrap n))) w):wpE P S H B (execOp ρ o) w K:=by
 simp only[execOp,ho,hx,convert,zm,zG hs,zG hd];simp only[Conv.intToInt,zp];exact hk
theorem GC(ht:P.underlying t=some .bool){K:Bool->World->Prop}(hk:K (p==q) w):wpE P S H B (Op.equalIn (d+1) t (.bool p) (.bool q)) w K:=by
 simp only[Op.equalIn,zm,zG ht,zp];exact hk
theorem Qh{op:BinOp}(ho:o.op=.binOp op xt x y yt)(hx:ρ x=.bool p)(hy:ρ y=.bool q)(ht:P.underlying xt=some .bool)
  (hop:op=.eql\/op=.neq)(hk:K (.value (.bool (if op=.eql then p==q else !(p==q)))) w):wpE P S H B (execOp ρ o) w K:=by
 simp only[execOp,ho,hx,hy,zm];rcases hop with rfl | rfl
 ·simp only[eqGuard,zp,binOp,zm,Op.equal];exact GC ht (by simpa using hk)
 ·simp only[eqGuard,zp,binOp,zm,Op.equal];exact GC ht (by simpa using hk)
theorem Qi{k:TyK}{desc:TypeDesc}{v n:Value}(ht:P.underlying t=some desc)(hk:jN desc k)
  (h:(k=.ifc/\kv v=v/\n=.nilIface)\/(k=.fnk/\Aj v=v/\n=.nilFunc)\/(∃e,k=.ptr e/\(∃a,v=.pointer a)/\n=.pointer none) \/
   (∃e,k=.sl e/\(∃a l c,v=.slice a l c)/\n=.slice none 0 0)){K:Bool->World->Prop}(hh:K (x7 v) w):wpE P S H B (Op.equalIn (d+1) t v n) w K:=by
 rcases h with⟨rfl,h1,rfl⟩ | ⟨rfl,h1,rfl⟩ | ⟨e,rfl,⟨a,rfl⟩,rfl⟩ | ⟨e,rfl,⟨a,l,c,rfl⟩,rfl⟩
 ·obtain⟨ms,rfl⟩:=hk;simp only[Op.equalIn,zm,zG ht];cases v <;> simp[kv]at h1 <;> exact hh
 ·obtain⟨x,y,z,rfl⟩:=hk;simp only[Op.equalIn,zm,zG ht];cases v <;> simp[Aj]at h1 <;> exact hh
 ·simp only[jN]at hk;subst hk;simp only[Op.equalIn,zm,zG ht];cases a <;> exact hh
 ·simp only[jN]at hk;subst hk;simp only[Op.equalIn,zm,zG ht];cases a <;> exact hh
theorem RN{op:BinOp}{k:TyK}{desc:TypeDesc}{v n:Value}(ho:o.op=.binOp op xt x y yt)(hx:ρ x=v)(hy:ρ y=n)
  (ht:P.underlying xt=some desc)(hk:jN desc k)(hyc:k=.ifc->∃c,y=.const c)
  (h:(k=.ifc/\kv v=v/\n=.nilIface)\/(k=.fnk/\Aj v=v/\n=.nilFunc)\/(∃e,k=.ptr e/\(∃a,v=.pointer a)/\n=.pointer none) \/
   (∃e,k=.sl e/\(∃a l c,v=.slice a l c)/\n=.slice none 0 0))
  (hop:op=.eql\/op=.neq)(hh:K (.value (.bool (if op=.eql then x7 v else !x7 v))) w):wpE P S H B (execOp ρ o) w K:=by
 have hg:wpE P S H B (eqGuard op xt x y v n) w (fun _ w'=>w'=w):=by
  rcases h with⟨rfl,h1,rfl⟩ | ⟨rfl,h1,rfl⟩ | ⟨e,rfl,⟨a,rfl⟩,rfl⟩ | ⟨e,rfl,⟨a,l,c,rfl⟩,rfl⟩
  ·obtain⟨c,rfl⟩:=hyc rfl;rcases hop with rfl | rfl <;> cases v <;> simp[kv]at h1 <;> simp[eqGuard,zp]
  ·rcases hop with rfl | rfl <;> cases v <;> simp[Aj]at h1 <;> simp[eqGuard,zp]
  ·rcases hop with rfl | rfl <;> simp[eqGuard,zp]
  ·rcases hop with rfl | rfl <;> simp[eqGuard,zp]
 simp only[execOp,ho,hx,hy,zm];refine kX _ hg fun _ w' hw'=>?_
 rw[hw'];clear hw' w';have he:∀ {K':Bool->World->Prop},K' (x7 v) w->wpE P S H B (Op.equal xt v n) w K':=fun hh=>Qi ht hk h hh
 have hb:∀ {K':Value->World->Prop},K' (.bool (if op=.eql then x7 v else !x7 v)) w->wpE P S H B (binOp op xt v n) w K':=by
  intro K' hh;rcases h with⟨rfl,h1,rfl⟩ | ⟨rfl,h1,rfl⟩ | ⟨e,rfl,⟨a,rfl⟩,rfl⟩ | ⟨e,rfl,⟨a,l,c,rfl⟩,rfl⟩
  ·rcases hop with rfl | rfl <;> cases v <;> simp[kv]at h1 <;> (simp only[binOp,zm];refine he ?_;simpa[zp]using hh)
  ·rcases hop with rfl | rfl <;> cases v <;> simp[Aj]at h1 <;> (simp only[binOp,zm];refine he ?_;simpa[zp]using hh)
  ·rcases hop with rfl | rfl <;> (simp only[binOp,zm];refine he ?_;simpa[zp]using hh)
  ·rcases hop with rfl | rfl <;> (simp only[binOp,zm];refine he ?_;simpa[zp]using hh)
 exact hb hh
theorem JG{k:TyK}{desc:TypeDesc}(ho:o.op=.makeInterface t x)(ht:P.underlying t=some desc)(hk:jN desc k)(hn:k ≠ .ifc)(hn2:k ≠ .oth)
  (hh:K (.value (.iface t (ρ x))) w):wpE P S H B (execOp ρ o) w K:=by
 simp only[execOp,ho,zm,Instr.makeInterface,zG ht];cases k <;> simp only[jN]at hk
 case ifc=>exact absurd rfl hn
 case oth=>exact absurd rfl hn2
 case st=>obtain⟨F,rfl,_⟩:=hk;exact hh
 case fnk=>obtain⟨a,b,c,rfl⟩:=hk;exact hh
 all_goals (subst hk;exact hh)
theorem Nr{f:Fn}{a b:Array Operand}(ho:o.op=.makeFunc f a b):execOp ρ o=Sem.pure (.value (.func f (a.map ρ) (b.map ρ))):=by
 simp[execOp,ho,Instr.makeFunc,bind,pure,Sem.bind]
theorem FV(ho:o.op=.nilCheck x)(hx:ρ x=.pointer (some a)):execOp ρ o=Sem.pure (.value (.pointer (some a))):=by
 simp[execOp,ho,hx,pure]
theorem JH{f:FuncId}{a b:Array Value}(ho:o.op=.nilCheck x)(hx:ρ x=.func (.func f) a b):execOp ρ o=Sem.pure (.value (.func (.func f) a b)):=by
 simp[execOp,ho,hx,pure]
theorem GD{i:Nat}{vs:Array Value}(ho:o.op=.extract x i)(hx:ρ x=.tuple vs)(hv:vs[i]? = some v):execOp ρ o=Sem.pure (.value v):=by
 simp[execOp,ho,hx,Instr.extract,hv,bind,pure,Sem.bind]
theorem Lx{s:TypeId}{F:Array Field}{fl:Field}(ho:o.op=.fieldAddr s x f)(hx:ρ x=.pointer (some a))(hs:P.underlying s=some (.struct F))
  (hf:F[f]? = some fl)(hi:P.info? fl.type=some i)(hz:i.size≠0)(hh:K (.value (.pointer (some (a.add fl.offset)))) w):wpE P S H B (execOp ρ o) w K:=by
 simp only[execOp,ho,hx,zm,Instr.fieldAt,zG hs,hf,Instr.sureAddr,zp,fieldPlace,xf hi,if_neg hz];exact hh
theorem RO{cs:Array Value}{F:Array Field}{fl:Field}{desc:TypeDesc}(ho:o.op=.field t x f)(hx:ρ x=.agg cs)(hs:P.underlying t=some (.struct F))
  (hf:F[f]? = some fl)(hi:P.info? fl.type=some i)(hd:P.underlying fl.type=some desc)
  (hh:if wF desc=true then K (.value (.agg (cs.extract fl.offset (fl.offset+i.size)))) w else ∃v,cs[fl.offset]? = some v/\K (.value v) w):wpE P S H B (execOp ρ o) w K:=by
 simp only[execOp,ho,hx,zm,Instr.field,zG hs,hf,asAgg,zp,part,GB hd];split at hh
 ·rename_i ha;simp only[ha,if_true,zm,xf hi,zp];exact hh
 ·rename_i ha;obtain⟨v,h1,h2⟩:=hh;simp only[ha,if_false,vK,h1,zp];exact h2
theorem Ot{a:Option Addr}(ho:o.op=.indexAddr t x ix)(hx:ρ x=.slice a l c)(hi:ρ ix=.int k n)
  (ht:P.underlying t=some (.slice e))(he:P.info? e=some i)(h0:0<=n)(h1:n<l)(ha:a.isSome)
  (hh:K (.value (.pointer (some ((a.getD default).add (n.toNat*i.size))))) w):wpE P S H B (execOp ρ o) w K:=by
 obtain⟨a,rfl⟩:=Option.isSome_iff_exists.1 ha;simp only[execOp,ho,hx,hi,zm,Instr.indexAt,asIntOf,zp,zG ht];rw[if_pos ⟨h0,h1⟩];simp only[zm,xf he,zp];exact hh
theorem Ns{len:Nat}(ho:o.op=.indexAddr t x ix)(hx:ρ x=.pointer (some a))(hi:ρ ix=.int k n)
  (ht:P.underlying t=some (.array len e))(he:P.info? e=some i)(h0:0<=n)(h1:n<len)(hh:K (.value (.pointer (some (a.add (n.toNat*i.size))))) w) :
  wpE P S H B (execOp ρ o) w K:=by
 simp only[execOp,ho,hx,hi,zm,Instr.indexAt,asIntOf,zp,zG ht,Instr.sureAddr];rw[if_pos ⟨h0,h1⟩];simp only[zm,xf he,zp];exact hh
theorem Vj{a:Option Addr}(ho:o.op=.call { callee:=.builtin .len,args:=as,argTypes:=ats })(has:as=#[x])
  (hx:ρ x=.slice a l c)(hat:ats[0]? = some t)(ht:P.underlying t=some (.slice e))(hh:K (.value (.int .i64 l)) w):wpE P S H B (execOp ρ o) w K:=by
 subst has;simp only[execOp,ho,zm,resolve,zp,invoke,builtin,Builtin.len_];simp only[List.map_toArray,vD,vE,hx,hat,List.getElem?_toArray,vC];simp only[zm,zG ht,zp,goInt];exact hh
theorem Vk{a:Option Addr}(ho:o.op=.call { callee:=.builtin .cap,args:=as,argTypes:=ats })(has:as=#[x])
  (hx:ρ x=.slice a l c)(hat:ats[0]? = some t)(ht:P.underlying t=some (.slice e))(hh:K (.value (.int .i64 c)) w):wpE P S H B (execOp ρ o) w K:=by
 subst has;simp only[execOp,ho,zm,resolve,zp,invoke,builtin,Builtin.cap_];simp only[List.map_toArray,vD,vE,hx,hat,List.getElem?_toArray,vC];simp only[zm,zG ht,zp,goInt];exact hh
theorem Vl(ho:o.op=.call { callee:=.builtin .min,args:=as,argTypes:=ats })(has:as=#[x,y])
  (hx:ρ x=.int k m)(hy:ρ y=.int k n)(hh:K (.value (.int k (if n<m then n else m))) w):wpE P S H B (execOp ρ o) w K:=by
 subst has;simp only[execOp,ho,zm,resolve,zp,invoke,builtin,Builtin.min_];simp only[List.map_toArray,vD,vE,hx,hy,List.foldlM,Builtin.min2,zm,zp];exact hh
theorem Vm(ho:o.op=.call { callee:=.builtin .max,args:=as,argTypes:=ats })(has:as=#[x,y])
  (hx:ρ x=.int k m)(hy:ρ y=.int k n)(hh:K (.value (.int k (if n>m then n else m))) w):wpE P S H B (execOp ρ o) w K:=by
 subst has;simp only[execOp,ho,zm,resolve,zp,invoke,builtin,Builtin.max_];simp only[List.map_toArray,vD,vE,hx,hy,List.foldlM,Builtin.max2,zm,zp];exact hh
theorem jG{y:Nat}{code:BoundsCode}{K:Nat->World->Prop}(hv:v=.int k n)(h0:0<=n)(h1:n<=y)(hh:K n.toNat w) :
  wpE P S H B (Instr.sliceBound v y code) w K:=by
 subst hv;simp only[Instr.sliceBound,zm,asIntOf,zp];rw[if_pos ⟨h0,h1⟩];exact hh
def JI(len cap:Nat)(lo hi m:Option Int):Prop:=
 (∀x,m=some x->0<=x/\x<=cap)/\(∀x,hi=some x->0<=x/\x<=(match m with | some y=>y | none=>(cap:Int))) /\
  (∀x,lo=some x->0<=x/\x<=(match hi with | some y=>y | none=>(len:Int)))/\(hi=none->m=none)
theorem DL{isS:Bool}{len cap:Nat}{lo hi m:Option Value}{K:Nat×Nat×Nat->World->Prop}
  (hl:∀v,lo=some v->∃k n,v=.int k n/\lo'=some n)(hl':lo=none->lo'=none)(hh:∀v,hi=some v->∃k n,v=.int k n/\hi'=some n)(hh':hi=none->hi'=none)
  (hm:∀v,m=some v->∃k n,v=.int k n/\m'=some n)(hm':m=none->m'=none)(hb:JI len cap lo' hi' m')
  (hk:K ((lo'.map Int.toNat).getD 0,(hi'.map Int.toNat).getD len,(m'.map Int.toNat).getD cap) w):wpE P S H B (Instr.sliceBounds isS len cap lo hi m) w K:=by
 obtain⟨b1,b2,b3,b4⟩:=hb;cases m with
 | none=>
  have:=hm' rfl;subst this;cases hi with
  | none=>
   have:=hh' rfl;subst this;cases lo with
   | none=>
    have:=hl' rfl;subst this;simp only[Instr.sliceBounds,zm,zp];exact hk
   | some v=>
    obtain⟨k,n,rfl,rfl⟩:=hl v rfl;simp only[Instr.sliceBounds,zm,zp];exact jG rfl (b3 n rfl).1 (b3 n rfl).2 hk
  | some v=>
   obtain⟨k,n,rfl,rfl⟩:=hh v rfl;simp only[Instr.sliceBounds,zm,zp];refine jG rfl (b2 n rfl).1 (b2 n rfl).2 ?_;cases lo with
   | none=>have:=hl' rfl;subst this;simp only[zm,zp];exact hk
   | some u=>
    obtain⟨k2,n2,rfl,rfl⟩:=hl u rfl;simp only[zm];have:=(b2 n rfl).1;have h3:=(b3 n2 rfl).2;exact jG rfl (b3 n2 rfl).1 (by simp at h3;omega) hk
 | some mv=>
  obtain⟨km,nm,rfl,rfl⟩:=hm mv rfl;cases hi with
  | none=>have:=b4 (hh' rfl);cases this
  | some v=>
   obtain⟨k,n,rfl,rfl⟩:=hh v rfl;simp only[Instr.sliceBounds,zm];refine jG rfl (b1 nm rfl).1 (b1 nm rfl).2 ?_;have h2:=(b2 n rfl).2;have h1:=(b1 nm rfl).1;refine jG rfl (b2 n rfl).1 (by simp at h2;omega) ?_;cases lo with
   | none=>have:=hl' rfl;subst this;simp only[zm,zp];exact hk
   | some u=>
    obtain⟨k2,n2,rfl,rfl⟩:=hl u rfl;simp only[zm];have:=(b2 n rfl).1;have h3:=(b3 n2 rfl).2;exact jG rfl (b3 n2 rfl).1 (by simp at h3;omega) hk
theorem Ou{lo hi m:Option Operand}{a:Option Addr}(ho:o.op=.slice t x lo hi m)(hx:ρ x=.slice a l c)
  (ht:P.underlying t=some (.slice e))(he:P.info? e=some i)
  (hl:∀v,lo.map ρ=some v->∃k n,v=.int k n/\lo'=some n)(hl':lo.map ρ=none->lo'=none)(hh:∀v,hi.map ρ=some v->∃k n,v=.int k n/\hi'=some n)(hh':hi.map ρ=none->hi'=none)
  (hm:∀v,m.map ρ=some v->∃k n,v=.int k n/\m'=some n)(hm':m.map ρ=none->m'=none)(hb:JI l c lo' hi' m')
  (hk:K (.value (qa i.size a ((lo'.map Int.toNat).getD 0) ((hi'.map Int.toNat).getD l) ((m'.map Int.toNat).getD c))) w):wpE P S H B (execOp ρ o) w K:=by
 simp only[execOp,ho,hx,zm,Instr.sliceAt,zG ht,Instr.slice];refine DL hl hl' hh hh' hm hm' hb ?_;simp only[xf he,zp];exact hk
theorem Nt{lo hi m:Option Operand}{n:Nat}(ho:o.op=.slice t x lo hi m)(hx:ρ x=.pointer (some a))
  (ht:P.underlying t=some (.array n e))(he:P.info? e=some i)
  (hl:∀v,lo.map ρ=some v->∃k n,v=.int k n/\lo'=some n)(hl':lo.map ρ=none->lo'=none)(hh:∀v,hi.map ρ=some v->∃k n,v=.int k n/\hi'=some n)(hh':hi.map ρ=none->hi'=none)
  (hm:∀v,m.map ρ=some v->∃k n,v=.int k n/\m'=some n)(hm':m.map ρ=none->m'=none)(hb:JI n n lo' hi' m')
  (hk:K (.value (qa i.size (some a) ((lo'.map Int.toNat).getD 0) ((hi'.map Int.toNat).getD n) ((m'.map Int.toNat).getD n))) w):wpE P S H B (execOp ρ o) w K:=by
 simp only[execOp,ho,hx,zm,Instr.sliceAt,zG ht,Instr.sureAddr,zp];refine DL hl hl' hh hh' hm hm' hb ?_;simp only[xf he];simpa only[qa,Option.map_some,apply_ite some]using hk
theorem ME{desc:TypeDesc}{vs:List Value}(ho:o.op=.load t x)(hx:ρ x=.pointer (some a))(ht:P.underlying t=some desc)
  (hi:P.info? t=some i)(hl:i.size=vs.length)(hc:∀(j:Nat) v,vs[j]? = some v->(H (a.add j).block≠none\/B<=(a.add j).block)/\w.cell? (a.add j)=some v)
  (hk:if wF desc=true then K (.value (.agg vs.toArray)) w else ∃v,vs=[v]/\K (.value v) w):wpE P S H B (execOp ρ o) w K:=by
 simp only[execOp,ho,hx,zm,Instr.loadAt,Instr.sureAddr,zp,loadVar,GB ht];split at hk
 ·rename_i ha;simp only[ha,if_true,zm,xf hi,loadCells,hl];refine kE vs 0 #[] (fun j v hv=>by simpa using hc j v hv) _ ?_;simpa[zp]using hk
 ·rename_i ha;obtain⟨v,rfl,h2⟩:=hk;simp only[ha,if_false,vK];obtain⟨h3,h4⟩:=hc 0 v (by simp);exact IT (by simpa[Addr.add]using h3) (by simpa[Addr.add]using h4) _ (by simpa[zp]using h2)
theorem Bu:∀(vs:List Value) (i:Nat) {w:World} {K:Unit->World->Prop},(∀v∈vs,v.cells=#[v]/\(∀x,v ≠ .tuple x)/\∀x,v ≠ .agg x) ->
  (H a.block≠none\/B<=a.block)->¬S a.block->(∀j,i<=j->j<i+vs.length->(∃u,w.cell? (a.add j)=some u)/\w.frozen? (a.add j)=false) ->
  K () ((vs.zipIdx i).foldl (fun w p=>w.setCell (a.add p.2) p.1) w)->wpE P S H B (storeCells a vs i) w K
 | [],_,_,_,_,_,_,_,hk=>hk
 | v::r,i,w,K,hv,hb,hs,hc,hk=>by
  simp only[storeCells,zm];obtain⟨v1,v2,v3⟩:=hv v (by simp);obtain⟨c1,c2⟩:=hc i (Nat.le_refl _) (by simp);refine⟨rfl,by rw[add_block];exact hb,by rw[add_block];exact hs,c1,c2,v1,v2,v3,?_⟩;refine Bu r (i+1) (fun u hu=>hv u (by simp[hu])) hb hs (fun j h1 h2=>?_) hk;obtain⟨⟨u,hu⟩,h4⟩:=hc j (by omega) (by simp;omega);refine⟨?_,?_⟩
  ·unfold World.cell? World.setCell at *;simp only[add_block]at hu ⊢;rw[Array.getElem?_modify,if_pos rfl];split at hu
   ·rename_i c e f hb;rw[hb];simp only[Option.map_some];split at hu
    ·cases hu
    ·rename_i hsp;rw[if_neg hsp];by_cases hsp2:(a.add i).spot.isSome=true
     ·rw[if_pos hsp2];exact⟨u,hu⟩
     ·rw[if_neg hsp2];have hlt:(a.add j).off<c.size:=(Array.getElem?_eq_some_iff.1 hu).1;exact⟨_,Array.getElem?_eq_getElem (by simpa using hlt)⟩
   ·cases hu
  ·unfold World.frozen? World.setCell at *;simp only[add_block]at h4 ⊢;rw[Array.getElem?_modify,if_pos rfl];cases hb:w.heap[a.block]? with
   | none=>rfl
   | some ob=>
    rw[hb]at h4;cases ob <;> simp_all
end ops
end Go.Eng
namespace Go.Eng
open Go
variable {e t:TypeId}{f x y:Operand}{i ie:TypeInfo}{env vs:List Value}{v:Value}{nums:List Nat}{parts:Array (Nat×Operand)}{us':Array Value}{c l n:Nat}{a:Option Addr}{as:Array Operand}{ats:Array TypeId}{g:FuncId}
section ops
variable {P:Program}{S:Shared}{ρ:Operand -> Value}{o:Oper}{H:Heap}{B:Nat}{w:World}{K:Next -> World -> Prop}
theorem JJ{a:Addr}(ho:o.op=.store t x y)(hx:ρ x=.pointer (some a))(hy:(ρ y).cells=vs.toArray)(hi:P.info? t=some i)
  (hl:vs.length=i.size)(hv:∀v∈vs,v.cells=#[v]/\(∀x,v ≠ .tuple x)/\∀x,v ≠ .agg x)(hb:H a.block≠none\/B<=a.block)(hs:¬S a.block)
  (hc:∀j,j<vs.length->(∃u,w.cell? (a.add j)=some u)/\w.frozen? (a.add j)=false)(hk:K .skip ((vs.zipIdx 0).foldl (fun w p=>w.setCell (a.add p.2) p.1) w)) :
  wpE P S H B (execOp ρ o) w K:=by
 simp only[execOp,ho,hx,zm,Instr.storeAt,Instr.sureAddr,zp,storeVar,xf hi];rw[if_neg (by rw[hy];simpa using hl)];rw[hy];simp only[zm];exact Bu vs 0 hv hb hs (fun j _ h2=>hc j (by omega)) hk
theorem JK(ho:o.op=.alloc t)(hi:P.info? t=some i)(hz:i.zero=some v)
  (hk:K (.value (.pointer (some ⟨w.heap.size,0,none⟩))) { w with heap:=w.heap.push (.cells v.cells t) }):wpE P S H B (execOp ρ o) w K:=by
 simp only[execOp,ho,zm,Instr.alloc,jW hi hz,newVar,newRow,zp];exact hk
theorem Ov(ho:o.op=.box t x)(hk:K (.value (.pointer (some ⟨w.heap.size,0,none⟩))) { w with heap:=w.heap.push (.cells (ρ x).cells t) }) :
  wpE P S H B (execOp ρ o) w K:=by
 simp only[execOp,ho,zm,Instr.box,newVar,newRow,zp];exact hk
def AH(cs:List Value)(off:Nat):List Value->List Value
 | []=>cs
 | x::r=>AH (cs.set off x) (off+1) r
theorem RP(xs:List Value):∀(cs:List Value) (off k:Nat),(xs.zipIdx k).foldl (fun(cs:Array Value) (p:Value×Nat)=>cs.setIfInBounds (off+p.2) p.1) cs.toArray=(AH cs (off+k) xs).toArray:=by
 induction xs with
 | nil=>intros;rfl
 | cons x r ih=>
  intro cs off k;simp only[List.zipIdx_cons,List.foldl_cons,AH];rw[show cs.toArray.setIfInBounds (off+k) x=(cs.set (off+k) x).toArray by simp];rw[ih];rw[Nat.add_assoc]
theorem zY.fill:∀ {xs:List Ex} {us:List Value},zY env nums xs us->∀ {cs:List Ex} {vs:List Value} (off:Nat),zY env nums cs vs->zY env nums (On cs off xs) (AH vs off us)
 | [],[],_,_,_,_,h=>h
 | _::_,_::_,h,_,_,off,k=>zY.fill h.2 (off+1) (k.set off h.1)
theorem SW(xs:List Value):∀(cs:List Value) (off:Nat),(AH cs off xs).length=cs.length:=by
 induction xs with
 | nil=>intros;rfl
 | cons x r ih=>intro cs off;simp[AH,ih]
def RQ(env:List Value)(nums:List Nat):List (Nat×List Ex)->List (Nat×Value)->Prop
 | [],[]=>True
 | (i,es)::r,(j,v)::s=>i=j/\(∃us:List Value,v.cells=us.toArray/\zY env nums es us)/\RQ env nums r s
 | _,_=>False
theorem HS{place:Nat->Option (Nat×Nat)}{fs:List (Nat×Nat)}(hp:∀i,place i=fs[i]?) :
  ∀(ps:List (Nat×List Ex)) (vs:List (Nat×Value)) (cs cs':List Ex) (us:List Value),RQ env nums ps vs->Br fs cs ps=some cs'->zY env nums cs us ->
   ∃us':List Value,Instr.fill place us.toArray vs=some us'.toArray/\zY env nums cs' us'
 | [],[],cs,cs',us,_,hb,hg=>by simp only[Br]at hb;cases hb;exact⟨us,rfl,hg⟩
 | (i,es)::r,(j,v)::s,cs,cs',us,hgp,hb,hg=>by
  obtain⟨hij,⟨xs,hv,hx⟩,hr⟩:=hgp;subst hij;simp only[Br]at hb;cases hf:fs[i]? with
  | none=>rw[hf]at hb;cases hb
  | some p=>
   obtain⟨off,sz⟩:=p;rw[hf]at hb;simp only at hb;split at hb
   ·rename_i hc;obtain⟨us',h1,h2⟩:=HS hp r s _ cs' (AH us off xs) hr hb (hx.fill off hg);refine⟨us',?_,h2⟩;simp only[Instr.fill,hp i,hf];rw[hv];have l1:=hx.len;have l2:=hg.len;rw[if_neg (by simp;omega)];rw[show(xs.toArray.zipIdx.foldl (fun cs x=>cs.setIfInBounds (off+x.2) x.1) us.toArray)=(AH us off xs).toArray from by
     have:=RP xs us off 0
     simp only[Nat.add_zero]at this
     rw[<-this]
     simp]
    exact h1
   ·cases hb
theorem FW{α β:Type}(f:α->Sem β)(g:α->β):∀(l:List α),(∀x∈l,∀K':β->World->Prop,K' (g x) w->wpE P S H B (f x) w K')->∀K':List β->World->Prop,K' (l.map g) w->wpE P S H B (l.mapM f) w K'
 | [],_,K',hk=>by simpa[List.mapM_nil,zp]using hk
 | x::r,h,K',hk=>by
  rw[List.mapM_cons];simp only[zm];refine h x (by simp) _ ?_;refine FW f g r (fun y hy=>h y (by simp[hy])) _ ?_;simpa[zp]using hk
theorem Vn{α β:Type}(f:α->Sem β)(g:α->β)(l:Array α)(h:∀x∈l.toList,∀K':β->World->Prop,K' (g x) w->wpE P S H B (f x) w K')(K':Array β->World->Prop)(hk:K' (l.toList.map g).toArray w) :
  wpE P S H B (l.mapM f) w K':=by
 rw[Array.mapM_eq_mapM_toList];show wpE P S H B (List.mapM f l.toList >>= fun a=>pure a.toArray) w K';rw[zm];exact FW f g _ h _ (by simpa[zp]using hk)
theorem Ow{F:Array Field}{sz:Field->Nat}(ho:o.op=.build t parts)(ht:P.underlying t=some (.struct F))
  (hi:P.info? t=some i)(hz:i.zero=some v)(hF:∀f∈F.toList,∃i,P.info? f.type=some i/\i.size=sz f)
  (hf:Instr.fill (fun k=>(F.toList.map fun f=>(f.offset,sz f))[k]?) v.cells (parts.toList.map fun p=>(p.1,ρ p.2))=some us')(hk:K (.value (.agg us')) w):wpE P S H B (execOp ρ o) w K:=by
 simp only[execOp,ho,zm,Instr.build,jW hi hz,zG ht];refine Vn _ (fun f=>(f.offset,sz f)) F (fun f hf K' hk'=>?_) _ ?_
 ·obtain⟨i,h1,h2⟩:=hF f hf;simp only[zm,xf h1,zp,h2];exact hk'
 ·have e:(Array.map (fun x=>(x.1,ρ x.2)) parts).toList=parts.toList.map fun p=>(p.1,ρ p.2):=by simp
  rw[e];simp only[List.getElem?_toArray];rw[hf];exact hk
theorem Nu(ho:o.op=.build t parts)(ht:P.underlying t=some (.array n e))
  (hi:P.info? t=some i)(hz:i.zero=some v)(he:P.info? e=some ie)
  (hf:Instr.fill (fun k=>some (k*ie.size,ie.size)) v.cells (parts.toList.map fun p=>(p.1,ρ p.2))=some us')(hk:K (.value (.agg us')) w):wpE P S H B (execOp ρ o) w K:=by
 simp only[execOp,ho,zm,Instr.build,jW hi hz,zG ht,xf he];have e:(Array.map (fun x=>(x.1,ρ x.2)) parts).toList=parts.toList.map fun p=>(p.1,ρ p.2):=by simp
 rw[e,hf];exact hk
theorem JL{len:Nat}(ho:o.op=.buildSlice t len parts)(ht:P.underlying t=some (.slice e))
  (he:P.info? e=some ie)(hz:ie.zero=some v)(hsm:len*ie.size<=2^24)
  (hf:Instr.fill (fun k=>some (k*ie.size,ie.size)) (yl (len*ie.size) v.cells) (parts.toList.map fun p=>(p.1,ρ p.2))=some us')
  (hk:K (.value (.slice (some ⟨w.heap.size,0,none⟩) len len)) { w with heap:=w.heap.push (.cells us' e) }):wpE P S H B (execOp ρ o) w K:=by
 have e1:(Array.map (fun x=>(x.1,ρ x.2)) parts).toList=parts.toList.map fun p=>(p.1,ρ p.2):=by simp
 simp only[execOp,ho,zm,Instr.buildSlice,zG ht,xf he];rw[if_neg (by omega)];by_cases h0:len*ie.size=0
 ·simp only[h0,if_true,zp,zm];rw[e1];have e2:(Array.range 0).map (fun i:Nat=>(#[]:Array Value)[i%(#[]:Array Value).size]!)=yl (len*ie.size) v.cells:=by rw[h0];simp[yl]
  rw[e2,hf];simp only[newRow,zm,zp];exact hk
 ·simp only[h0,if_false,zm,jW he hz,zp];rw[e1];have e2:(Array.range (len*ie.size)).map (fun i:Nat=>v.cells[i%v.cells.size]!)=yl (len*ie.size) v.cells:=rfl;rw[e2,hf];simp only[newRow,zm,zp];exact hk
theorem I8(n:Nat){K':Unit->World->Prop}(hk:K' () w):wpE P S H B (askRoom n) w K':=by
 unfold askRoom;split
 ·exact⟨trivial,hk⟩
 ·exact hk
theorem Ly{l c:Operand}{kl kc:IntKind}{nl nc:Int}(ho:o.op=.makeSlice t l c)(hl:ρ l=.int kl nl)(hc:ρ c=.int kc nc)
  (ht:P.underlying t=some (.slice e))(he:P.info? e=some ie)(hz:ie.zero=some v)(h0:0<=IntKind.i64.wrap nl)(h1:IntKind.i64.wrap nl<=IntKind.i64.wrap nc)
  (h2:(ie.bytes:Int)*IntKind.i64.wrap nc<=2^48)
  (hk:K (.value (.slice (some ⟨w.heap.size,0,none⟩) (IntKind.i64.wrap nl).toNat (IntKind.i64.wrap nc).toNat)) { w with heap:=w.heap.push (.cells (yl ((IntKind.i64.wrap nc).toNat*ie.size) v.cells) e) }) :
  wpE P S H B (execOp ρ o) w K:=by
 simp only[execOp,ho,hl,hc,zm,Instr.makeSlice,zG ht,asInt,asIntOf,zp,kJ he];rw[if_neg (by simp;omega)];simp only[zm];refine I8 _ ?_;simp only[xf he];by_cases hn:(IntKind.i64.wrap nc).toNat*ie.size=0
 ·simp only[hn,if_true,zp,newRow,zm];have e2:(Array.range 0).map (fun i:Nat=>(#[]:Array Value)[i%(#[]:Array Value).size]!)=yl ((IntKind.i64.wrap nc).toNat*ie.size) v.cells:=by rw[hn];simp[yl]
  rw[e2];exact hk
 ·simp only[hn,if_false,zm,jW he hz,zp,newRow];exact hk
theorem FX{f:Value->ByteArray->Sem (ForInStep ByteArray)}(hf:∀n r,f (.int .u8 n) r=pure (.yield (r.push (UInt8.ofNat n.toNat)))):∀(ys:List Int) (s:ByteArray) {K:ByteArray->World->Prop},
  K (ys.foldl (fun s n=>s.push (UInt8.ofNat n.toNat)) s) w->wpE P S H B (forIn (ys.map (Value.int .u8)) s f) w K
 | [],s,K,hk=>by simpa[zp]using hk
 | y::r,s,K,hk=>by
  simp only[vD,List.forIn_cons,zm,hf,zp];exact FX hf r _ hk
theorem RR{src dst e:TypeId}{ys:List Int}{K:Next->World->Prop}(ho:o.op=.convert src dst x)(hx:ρ x=.slice a l c)(hs:P.underlying src=some (.slice e))
  (hd:P.underlying dst=some .string)(he:P.underlying e=some (.int .u8))(hl:ys.length=l)(hn:a=none->ys=[])
  (hc:∀b,a=some b->∀(j:Nat) u,(ys.map (Value.int .u8))[j]? = some u->(H (b.add j).block≠none\/B<=(b.add j).block)/\w.cell? (b.add j)=some u)(hk:K (.value (.string (strOf ys))) w) :
  wpE P S H B (execOp ρ o) w K:=by
 cases a with
 | none=>
  obtain rfl:=hn rfl;simp only[execOp,ho,hx,convert,zm,zG hs,zG hd,zG he,Conv.bytesToString,zp];exact hk
 | some b=>
  simp only[execOp,ho,hx,convert,zm,zG hs,zG hd,zG he,Conv.bytesToString,loadCells,<-hl];have e1:ys.length=(ys.map (Value.int .u8)).length:=by simp
  rw[e1];refine kE _ 0 #[] (fun j u hu=>by simpa using hc b rfl j u hu) _ ?_;simp only[List.append_toArray,vH,List.forIn_toArray];refine FX (fun _ _=>rfl) ys _ ?_;simp only[zp];exact hk
theorem SX{src e T:TypeId}{a:Addr}{cs:Array Value}{K:Next->World->Prop}(ho:o.op=.convert src src x)(hx:ρ x=.slice (some a) l c)(hs:P.underlying src=some (.slice e))
  (he:P.underlying e=some (.int .u8))(hb:w.heap[a.block]? = some (.cells cs T))(hk:K (.value (.slice (some a) l c)) (w.freeze { block:=a.block,off:=cs.size } 1)) :
  wpE P S H B (execOp ρ o) w K:=by
 simp only[execOp,ho,hx,convert,zm,zG hs,zG he,beq_self_eq_true,markStringish,shape,wpE,World.shape?,hb,freeze,zp];exact hk
theorem CY{l c sz n:Nat}(hv:v=.slice a l c)(hn:n*sz=vs.length)(h0:a=none->vs=[])
  (hc:∀b,a=some b->∀(j:Nat) u,vs[j]? = some u->(H (b.add j).block≠none\/B<=(b.add j).block)/\w.cell? (b.add j)=some u){K':Array Value->World->Prop}(hk:K' vs.toArray w) :
  wpE P S H B (Builtin.firstCells sz n v) w K':=by
 subst hv;cases a with
 | none=>have:=h0 rfl;subst this;simpa[Builtin.firstCells,zp]using hk
 | some b=>
  simp only[Builtin.firstCells,loadCells,hn];exact kE vs 0 #[] (fun j u hu=>by simpa using hc b rfl j u hu) _ (by simpa using hk)
theorem Qj{st xt e e':TypeId}{a xa:Option Addr}{l c xl xc:Nat}{ys:List Value}
  (ho:o.op=.call { callee:=.builtin .append,args:=as,argTypes:=ats })(has:as=#[x,y])(hx:ρ x=.slice a l c)(hy:ρ y=.slice xa xl xc)(hat:ats[0]? = some st)(hat1:ats[1]? = some xt)
  (hst:P.underlying st=some (.slice e))(hxt:P.underlying xt=some (.slice e'))(he:P.info? e=some ie)(hz:ie.zero=some v)(hby:ie.bytes≠0)
  (hyl:xl*ie.size=ys.length)(hy0:xa=none->ys=[])(hyc:∀b,xa=some b->∀(j:Nat) u,ys[j]? = some u->(H (b.add j).block≠none\/B<=(b.add j).block)/\w.cell? (b.add j)=some u)
  (hroom:l+xl<=c->match a with
   | some b=>(∀v∈ys,v.cells=#[v]/\(∀x,v ≠ .tuple x)/\∀x,v ≠ .agg x)/\(ys=[]\/((H b.block≠none\/B<=b.block)/\¬S b.block)) /\
     (∀j,j<ys.length->(∃u,w.cell? ((b.add (l*ie.size)).add j)=some u)/\w.frozen? ((b.add (l*ie.size)).add j)=false) /\
     K (.value (.slice (some b) (l+xl) c)) ((ys.zipIdx 0).foldl (fun w p=>w.setCell ((b.add (l*ie.size)).add p.2) p.1) w)
   | none=>K (.value (.slice none (l+xl) c)) w)
  (hgrow:c<l+xl->Builtin.nextslicecap (l+xl) c*ie.bytes<=2^48/\∃os:List Value,l*ie.size=os.length/\(a=none->os=[]) /\
   (∀b,a=some b->∀(j:Nat) u,os[j]? = some u->(H (b.add j).block≠none\/B<=(b.add j).block)/\w.cell? (b.add j)=some u) /\
   ∀nc d,l+xl<=nc->K (.value (.slice (some ⟨w.heap.size,0,none⟩) (l+xl) nc))
    { w with drawn:=d,heap:=w.heap.push (.cells (os.toArray++ys.toArray++Builtin.zeroCells v.cells (nc-(l+xl))) e) }):wpE P S H B (execOp ρ o) w K:=by
 subst has;simp only[execOp,ho,zm,resolve,zp,invoke,builtin,Builtin.append_];simp only[List.map_toArray,vD,vE,hx,hy,hat,hat1,List.getElem?_toArray,vC,List.getElem?_cons_succ];simp only[zm,zG hst,zG hxt,xf he,zp];simp only[vK,if_false,Bool.not_false,if_true,Builtin.lenOf,zm,zp];by_cases hr:l+xl<=c
 ·rw[if_pos hr];have hr':=hroom hr;simp only[zm];refine CY rfl hyl hy0 hyc ?_;cases a with
  | none=>simpa only[zm,zp]using hr'
  | some b=>
   obtain⟨h1,h3,h4,h5⟩:=hr';simp only[zm];rcases h3 with rfl | ⟨h2,h3⟩
   ·simpa[storeCells,zp]using h5
   ·refine Bu ys 0 h1 (by rw[add_block];exact h2) (by rw[add_block];exact h3) (fun j _ h=>h4 j (by omega)) ?_;simpa only[zp]using h5
 ·rw[if_neg hr];obtain⟨g1,os,g2,g3,g4,g5⟩:=hgrow (by omega);simp only[zm,kJ he];rw[if_neg (by simp[hby])];simp only[zm,kJ he];rw[if_neg (by omega)];simp only[zm,zp,choose,wpE,Question.forced,vK,if_false,Question.cut,kJ he];refine I8 _ ?_;refine CY (w:={ w with drawn:=w.drawn+1 }) rfl g2 g3 (fun b hb j u hu=>g4 b hb j u hu) ?_;refine CY (w:={ w with drawn:=w.drawn+1 }) rfl hyl hy0 (fun b hb j u hu=>hyc b hb j u hu) ?_;simp only[zm,jW he hz,zp,newRow,newObj,wpE];exact g5 _ _ (by omega)
theorem Qk{first cap:Array Value}(ho:o.op=.call { callee:=.value f,args:=as,argTypes:=ats })(hf:ρ f=.func (.func g) first cap) :
  execOp ρ o=callFunc g (first++as.map ρ++cap):=by
 simp[execOp,ho,resolve,hf,Deferred.ofValue,invoke,bind,pure,Sem.bind]
theorem I9{r:Operand}{name:String}(ho:o.op=.call { callee:=.invoke r name,args:=as,argTypes:=ats })(hr:ρ r=.iface t v) :
  execOp ρ o=(do
   let(f,receiver) <-method ((<-program).types.size+Made.depth) t v name
   callFunc f (#[receiver]++as.map ρ)):=by
 have e0:(#[Value.iface t v]++Array.map ρ as)[0]? = some (Value.iface t v):=by
  rw[Array.getElem?_append_left (by simp)];rfl
 simp[execOp,ho,resolve,hr,invoke,callMethod,bind,pure,Sem.bind,e0,show(Array.map ρ as).extract 0 as.size=Array.map ρ as by rw[<-Array.size_map (f:=ρ)];exact Array.extract_size]
theorem SY{first cap:Array Value}(ho:o.op=.call { callee:=.value f,args:=as,argTypes:=ats })(hf:ρ f=.func (.func g) first cap)
  (hc:∀(xs:Array Value) (w:World),(callFunc g xs).runT P w #[]=(.ok (.enter g xs) w,#[]))(w:World):(execOp ρ o).runT P w #[]=(.ok (.enter g (first++as.map ρ++cap)) w,#[]):=by
 have:execOp ρ o=callFunc g (first++as.map ρ++cap):=by
  simp[execOp,ho,resolve,hf,Deferred.ofValue,invoke,bind,pure,Sem.bind]
 rw[this];exact hc _ _
end ops
end Go.Eng
end
