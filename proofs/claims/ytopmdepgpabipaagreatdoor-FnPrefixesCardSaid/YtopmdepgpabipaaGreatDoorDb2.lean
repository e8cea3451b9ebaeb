import Derived.Test.YtopmdepgpabipaaGreatDoorDb1
set_option maxRecDepth 100000
set_option maxHeartbeats 8000000
set_option linter.unusedVariables false
set_option linter.unusedSimpArgs false
set_option linter.unusedSectionVars false
section
namespace Go.Eng
open Go
variable {v:SV}{u:Value}{d:TyD}{k k':IntKind}{e x y:Ex}{m n:Int}{b:Bool}{p:Option Addr}{c l:Nat}{need:List Ex}{lr:Option Nat}
section
variable {P:Program}{S:Shared}{cfg:Cfg}{st:St}{env:List Value}{nums:List Nat}{a:Act}{L:Heap}{G:List Ex}{o:Oper}
def PG(P:Program)(S:Shared)(env:List Value)(nums:List Nat)(a:Act)(L:Heap)(o:Oper)(need:List Ex)(v:SV)(lr:Option Nat):Prop:=
 (∀e∈need,∃b,Good env nums e (.bool b)) /\
 ((∀e∈need,Good env nums e (.bool true))->∃u,xU env nums v u/\∀L2 h w,Same (lr.bind fun j=>nums[j]?) L L2->Has w (plus h L2)->Apart h L2 ->
  wpE P S (plus h L2) w.heap.size (execOp a.eval o) w (fun n w'=>n=.value u/\w'=w))
theorem PG.sem(hv:xU env nums v u)(he:execOp a.eval o=Sem.pure (.value u)):PG P S env nums a L o [] v none:=
 ⟨by simp,fun _=>⟨u,hv,fun L2 h w _ _ _=>by rw[he];exact⟨rfl,rfl⟩⟩⟩
theorem PG.Vo{n:Ex}(hn:∃b,Good env nums n (.bool b))(H:Good env nums n (.bool true)->∃u,xU env nums v u/\execOp a.eval o=Sem.pure (.value u)):PG P S env nums a L o [n] v none:=
 ⟨by simpa using hn,fun h=>by obtain⟨u,h1,h2⟩:=H (h n (by simp));exact⟨u,h1,fun L2 h w _ _ _=>by rw[h2];exact⟨rfl,rfl⟩⟩⟩
theorem PG.wp(hv:xU env nums v u)(he:∀(h:Heap) (w:World) (K:Next->World->Prop),K (.value u) w->wpE P S h w.heap.size (execOp a.eval o) w K):PG P S env nums a L o [] v none:=
 ⟨by simp,fun _=>⟨u,hv,fun L2 h w _ _ _=>he _ _ _ ⟨rfl,rfl⟩⟩⟩
theorem zJ.get(hT:zJ P cfg.tab){t:TypeId}(h:cfg.ty t=some d):Agr P t d:=hT t d h
theorem Bv{op:BinOp}(hx:Good env nums x (.int k m))(hy:Good env nums y (.int k' n)):Good env nums (.ar op k x y) (.int k (arith op k m n)):=
 fun xs ys=>by simp[Ex.ev,hx xs ys,hy xs ys,toInt]
theorem kK{op:BinOp}(hx:Good env nums x (.int k m))(hy:Good env nums y (.int k' n)):Good env nums (.cm op x y) (.bool (z9 op m n)):=
 fun xs ys=>by simp[Ex.ev,hx xs ys,hy xs ys,toInt]
theorem xd(c:Cst):Good env nums (.cst c) c.val:=fun _ _=>rfl
theorem Bw(hx:Good env nums x (.bool b)):Good env nums (.nt x) (.bool (!b)):=fun xs ys=>by simp[Ex.ev,hx xs ys,toBool]
theorem HT(hx:Good env nums x u):Good env nums (.nn x) (.bool (x7 u)):=fun xs ys=>by simp[Ex.ev,hx xs ys]
theorem Xz{b c:Bool}(hx:Good env nums x (.bool b))(hy:Good env nums y (.bool c)):Good env nums (.bq x y) (.bool (b==c)):=fun xs ys=>by simp[Ex.ev,hx xs ys,hy xs ys,toBool]
theorem X0{b c:ByteArray}(hx:Good env nums x (.string b))(hy:Good env nums y (.string c)):Good env nums (.sq x y) (.bool (b.toList==c.toList)):=fun xs ys=>by simp[Ex.ev,hx xs ys,hy xs ys,RK,CV]
theorem Lz(hx:Good env nums x (.slice p l c)):Good env nums (.ln x) (.int .i64 l):=fun xs ys=>by simp[Ex.ev,hx xs ys,slL]
theorem QG(hx:Good env nums x (.slice p l c)):Good env nums (.cp x) (.int .i64 c):=fun xs ys=>by simp[Ex.ev,hx xs ys,slC]
theorem Good.CH(h:Good env nums e (.bool b))(k:Good env nums e (.bool true)):b=true:=xr (h.uniq k)
theorem LA{op:BinOp}(hg:Good env nums e (.bool b))(h:Lv op e=some (.pure need v lr))
  (he:∀(c:Bool),(op=.eql\/op=.neq)->c=(if op=.eql then b else !b)->∀(h:Heap) (w:World) (K:Next->World->Prop),K (.value (.bool c)) w->wpE P S h w.heap.size (execOp a.eval o) w K) :
  PG P S env nums a L o need v lr:=by
 unfold Lv at h;split at h
 ·rename_i ho;cases h
  exact .wp hg (he b (.inl ho) (by rw[if_pos ho]))
 ·split at h
  ·rename_i ho hn;cases h
   exact .wp (Bw hg) (he (!b) (.inr hn) (by rw[if_neg ho]))
  ·cases h
theorem JM{k:TyK}{yc:Bool}(h:Lw k yc x y=true) :
  (k=.ifc/\yc=true/\x.sh=some .iface/\y=.cst .nilIf)\/(k=.fnk/\x.sh=some .fnv/\y=.cst .nilFn) \/
   (∃e,k=.ptr e/\x.sh=some .ptr/\y=.cst .nilPtr)\/(∃e,k=.sl e/\x.sh=some .slice/\y=.cst .nilSl):=by
 unfold Lw at h;split at h
 ·simp at h;exact .inl ⟨rfl,h.1,h.2,rfl⟩
 ·simp at h;exact .inr (.inl ⟨rfl,h,rfl⟩)
 ·simp at h;exact .inr (.inr (.inl ⟨_,rfl,h,rfl⟩))
 ·simp at h;exact .inr (.inr (.inr ⟨_,rfl,h,rfl⟩))
 ·cases h
theorem YQ{op:BinOp}{xt yt:TypeId}{x y:Operand}{ex ey:Ex}(hd:Agr P xt d)(ho:o.op=.binOp op xt x y yt)
  (hx:Good env nums ex (a.eval x))(hy:Good env nums ey (a.eval y))(h:JB op d.k (BQ y) ex ey=some (.pure need v lr)):PG P S env nums a L o need v lr:=by
 have hyc:BQ y=true->∃c,y=.const c:=by
  cases y <;> simp[BQ]
 generalize BQ y=yc at h hyc;unfold JB at h;split at h
 ·rename_i k k' hk hk';obtain⟨m,hm⟩:=hx.int hk;obtain⟨n,hn⟩:=hy.int hk';have gx:=hx;have gy:=hy;rw[hm]at gx;rw[hn]at gy;split at h
  ·rename_i hsh;have fin:0<=n->execOp a.eval o=Sem.pure (.value (.int k (arith op k m n))):=fun h0=>
    Fz ho hm hn (fun _=>h0) (fun hne=>absurd hsh hne) (by rcases hsh with rfl | rfl <;> rfl) (fun hq=>by rcases hsh with rfl | rfl <;> simp at hq)
   split at h
   ·split at h
    ·rename_i c h0;cases h
     have:=(gy.at.symm.trans (xd (env:=env) (nums:=nums) _).at);simp only[Cst.val]at this;cases this
     exact .sem (Bv gx gy) (fin h0)
    ·cases h
   ·cases h
    refine .Vo ⟨_,kK gy (xd _)⟩ fun hb=>?_
    have h1:=(kK (op:=.geq) gy (xd (env:=env) (nums:=nums) (.int k' 0))).CH hb;exact⟨_,Bv gx gy,fin (by simpa[z9]using h1)⟩
  ·rename_i hsh;split at h
   ·rename_i hkk;subst hkk;split at h
    ·rename_i hc;cases h
     exact .sem (kK gx gy) (Vf ho hm hn hc)
    ·rename_i hc;have hc':HK op=false:=by simpa using hc
     split at h
     ·rename_i hqr;have fin:n≠0->execOp a.eval o=Sem.pure (.value (.int k (arith op k m n))):=fun h0=>
       Fz ho hm hn (fun h=>absurd h hsh) (fun _=>rfl) hc' (fun _=>h0)
      split at h
      ·split at h
       ·cases h
       ·rename_i c h0;cases h
        have:=(gy.at.symm.trans (xd (env:=env) (nums:=nums) _).at);simp only[Cst.val]at this;cases this
        exact .sem (Bv gx gy) (fin h0)
      ·cases h
       refine .Vo ⟨_,kK gy (xd _)⟩ fun hb=>?_
       have h1:=(kK (op:=.neq) gy (xd (env:=env) (nums:=nums) (.int k 0))).CH hb;exact⟨_,Bv gx gy,fin (by simpa[z9]using h1)⟩
     ·rename_i hqr;cases h
      exact .sem (Bv gx gy) (Fz ho hm hn (fun h=>absurd h hsh) (fun _=>rfl) hc' (fun h=>absurd h hqr))
   ·cases h
 ·split at h
  ·rename_i hb;simp only[Bool.and_eq_true,decide_eq_true_eq]at hb;obtain⟨⟨b1,b2⟩,b3⟩:=hb;obtain⟨p,hp⟩:=hx.bool b1;obtain⟨q,hq⟩:=hy.bool b2;have gx:=hx;have gy:=hy;rw[hp]at gx;rw[hq]at gy;obtain⟨desc,hu,hk⟩:=hd.u;rw[b3]at hk;simp only[jN]at hk;subst hk;refine LA (Xz gx gy) h fun c hop hc h w K hK=>?_
   exact Qh ho hp hq hu hop (by rw[hc]at hK;exact hK)
  ·split at h
   ·rename_i hs;simp only[Bool.and_eq_true,decide_eq_true_eq]at hs;have gx:=hx;have gy:=hy;have hp:a.eval x=.string (CV (a.eval x)):=(hx.sh hs.1).symm;have hq:a.eval y=.string (CV (a.eval y)):=(hy.sh hs.2).symm;rw[hp]at gx;rw[hq]at gy;refine LA (X0 gx gy) h fun c hop hc h w K hK=>?_
    rw[RM ho hp hq hop,<-hc];exact hK
   split at h
   ·rename_i hn;obtain⟨desc,hu,hk⟩:=hd.u;refine LA (HT hx) h fun c hop hc h w K hK=>?_
    refine RN (k:=d.k) ho rfl rfl hu hk ?_ ?_ hop (by rw[hc]at hK;exact hK)
    ·intro hi;rcases JM hn with⟨_,h2,_⟩ | ⟨h1,_⟩ | ⟨e,h1,_⟩ | ⟨e,h1,_⟩
     ·exact hyc h2
     all_goals (rw[hi]at h1;cases h1)
    ·rcases JM hn with⟨h1,_,h3,rfl⟩ | ⟨h1,h3,rfl⟩ | ⟨e,h1,h3,rfl⟩ | ⟨e,h1,h3,rfl⟩
     ·exact .inl ⟨h1,hx.sh h3,hy.at.symm⟩
     ·exact .inr (.inl ⟨h1,hx.sh h3,hy.at.symm⟩)
     ·exact .inr (.inr (.inl ⟨e,h1,⟨_,(hx.sh h3).symm⟩,hy.at.symm⟩))
     ·exact .inr (.inr (.inr ⟨e,h1,⟨_,_,_,(hx.sh h3).symm⟩,hy.at.symm⟩))
   ·cases h
 ·cases h
end
end Go.Eng
namespace Go.Eng
open Go
theorem kL{α β:Type}{f:α->Option β}:∀ {l:List α} {r:List β},allM f l=some r->r.length=l.length/\∀(i:Nat) x,l[i]? = some x->∃y,f x=some y/\r[i]? = some y
 | [],r,h=>by simp only[allM]at h;cases h;simp
 | a::l,r,h=>by
  simp only[allM]at h;split at h
  ·rename_i b r' hb hr;cases h
   obtain⟨h1,h2⟩:=kL hr;refine⟨by simp[h1],fun i x hx=>?_⟩;cases i with
   | zero=>simp at hx;subst hx;exact⟨b,hb,by simp⟩
   | succ i=>simp at hx;obtain⟨y,h3,h4⟩:=h2 i x hx;exact⟨y,h3,by simpa using h4⟩
  ·cases h
theorem F1{α β:Type}{f:α->Option β}:∀ {l:List α} {r:List β},allM f l=some r->∀x∈l,∃y∈r,f x=some y
 | [],r,h,x,hx=>by simp at hx
 | a::l,r,h,x,hx=>by
  simp only[allM]at h;split at h
  ·rename_i b r' hb hr;cases h
   rcases List.mem_cons.1 hx with rfl | hx
   ·exact⟨b,by simp,hb⟩
   ·obtain⟨y,h1,h2⟩:=F1 hr x hx;exact⟨y,by simp[h1],h2⟩
  ·cases h
variable {x y:Operand}{t xt:TypeId}{i:Nat}
section
variable {P:Program}{S:Shared}{cfg:Cfg}{st:St}{env:List Value}{nums:List Nat}{a:Act}{L:Heap}{G:List Ex}{o:Oper}{need:List Ex}{v:SV}{lr:Option Nat}
theorem Ox(H:Rel st env nums a L)(hG:∀e∈G,Good env nums e (.bool true))(ho:o.op=.move x\/o.op=.assign x)(h:zZ cfg st G o=some (.pure need v lr)) :
  PG P S env nums a L o need v lr:=by
 have h':(st.get G x).map (fun v=>Eff.pure [] v none)=some (.pure need v lr):=by rcases ho with ho | ho <;> (simp only[zZ,ho]at h;exact h)
 obtain⟨w,h1,h2⟩:=Option.map_eq_some_iff.1 h';cases h2
 exact .sem (qy H hG h1).1 (SU ho)
theorem X1(hT:zJ P cfg.tab)(H:Rel st env nums a L)(hG:∀e∈G,Good env nums e (.bool true)){op:BinOp}{xt yt:TypeId}(ho:o.op=.binOp op xt x y yt)
  (h:zZ cfg st G o=some (.pure need v lr)):PG P S env nums a L o need v lr:=by
 simp only[zZ,ho]at h;split at h
 ·rename_i p q hp hq;split at h
  ·rename_i d hd;exact YQ (zJ.get hT hd) ho (x9 H hG hp) (x9 H hG hq) h
  ·cases h
 ·cases h
theorem YR(H:Rel st env nums a L)(hG:∀e∈G,Good env nums e (.bool true)){op:UnOp}(ho:o.op=.unOp op xt x)
  (h:zZ cfg st G o=some (.pure need v lr)):PG P S env nums a L o need v lr:=by
 simp only[zZ,ho]at h;split at h
 ·rename_i p hp;split at h
  ·rename_i hb;cases h
   have g:=x9 H hG hp;obtain⟨b,hb⟩:=g.bool hb;rw[hb]at g;exact .sem (Bw g) (Vg ho hb)
  ·cases h
 ·rename_i p hp;obtain⟨k,hk,h2⟩:=Option.map_eq_some_iff.1 h;cases h2
  have g:=x9 H hG hp;obtain⟨n,hn⟩:=g.int hk;rw[hn]at g;exact .sem (Bv (xd _) g) (Vh ho hn)
 ·rename_i p hp;obtain⟨k,hk,h2⟩:=Option.map_eq_some_iff.1 h;cases h2
  have g:=x9 H hG hp;obtain⟨n,hn⟩:=g.int hk;rw[hn]at g;exact .sem (Bv (xd _) g) (Vi ho hn)
 ·cases h
theorem Ql(hT:zJ P cfg.tab)(H:Rel st env nums a L)(hG:∀e∈G,Good env nums e (.bool true)){src dst:TypeId}(ho:o.op=.convert src dst x)
  (h:zZ cfg st G o=some (.pure need v lr)):PG P S env nums a L o need v lr:=by
 simp only[zZ,ho]at h;split at h
 ·rename_i p k sz byt shs z tup ds hp hd hs;obtain⟨k0,hk,h2⟩:=Option.map_eq_some_iff.1 h;cases h2
  have g:=x9 H hG hp;obtain⟨n,hn⟩:=g.int hk;rw[hn]at g;obtain⟨desc,hu,hkk⟩:=(zJ.get hT hd).u;obtain⟨desc2,hu2,_⟩:=(zJ.get hT hs).u;simp only[jN]at hkk;subst hkk;refine .wp (u:=.int k (k.wrap n)) (fun xs ys=>by simp[Ex.ev,g xs ys,toInt]) fun h w K hK=>?_
  exact Oq ho hn hu2 hu hK
 ·split at h
  ·split at h
   ·cases h
   ·cases h
  ·cases h
 ·split at h
  ·split at h
   ·cases h
   ·cases h
  ·cases h
 ·cases h
theorem Oy(H:Rel st env nums a L)(hG:∀e∈G,Good env nums e (.bool true))(ho:o.op=.nilCheck x)
  (h:zZ cfg st G o=some (.pure need v lr)):PG P S env nums a L o need v lr:=by
 simp only[zZ,ho]at h;split at h
 ·rename_i p hp;have g:=x9 H hG hp;split at h
  ·rename_i ha;cases h
   obtain⟨b,hb⟩:=g.addr ha;rw[hb]at g;exact .sem g (FV ho hb)
  ·split at h
   ·rename_i hs;cases h
    have hv:=(g.sh hs).symm;simp only[coerce]at hv;refine .Vo ⟨_,Bw (HT g)⟩ fun hb=>?_
    have h1:=(Bw (HT g)).CH hb;cases hq:kZ (a.eval x)with
    | none=>rw[hq]at hv;rw[hv]at h1;simp[x7]at h1
    | some q=>
     rw[hq]at hv;rw[hv]at g;refine⟨.pointer (some q),?_,FV ho hv⟩;exact fun xs ys=>by simp[Ex.ev,g xs ys,xz,kZ]
   ·split at h
    ·rename_i f e1 e2 _ _;cases h
     have hv:=g.at;simp only[Ex.ev]at hv;exact .sem g (by rw[<-hv];exact JH ho hv.symm)
    ·cases h
 ·cases h
theorem GF{es:List Ex}{us:List Value}(h:zY env nums es us):Good env nums (Ex.list es) (.tuple us.toArray):=by
 induction es generalizing us with
 | nil=>cases us with | nil=>exact fun _ _=>rfl | cons u us=>exact h.elim
 | cons e es ih=>
  cases us with
  | nil=>exact h.elim
  | cons u us=>
   intro xs ys;have h1:=h.1 xs ys;have h2:=ih h.2 xs ys;simp[Ex.list,Ex.ev,h1,h2,xS]
theorem SZ(hT:zJ P cfg.tab)(H:Rel st env nums a L)(hG:∀e∈G,Good env nums e (.bool true))(ho:o.op=.makeInterface t x)
  (h:zZ cfg st G o=some (.pure need v lr)):PG P S env nums a L o need v lr:=by
 simp only[zZ,ho]at h;split at h
 ·rename_i d e hd hx;split at h
  ·cases h
  ·rename_i hk;simp only[Bool.or_eq_true,decide_eq_true_eq,not_or]at hk;cases h
   obtain⟨desc,hu,hkk⟩:=(zJ.get hT hd).u;have g:Good env nums e (a.eval x):=(qy H hG hx).1;refine .wp (u:=.iface t (a.eval x)) (fun xs ys=>by simp[Ex.ev,g xs ys]) fun h w K hK=>?_
   exact JG ho hu hkk hk.1 hk.2 hK
 ·rename_i d cs hd hx;split at h
  ·cases h
  ·rename_i hk;simp only[Bool.or_eq_true,decide_eq_true_eq,not_or]at hk;cases h
   obtain⟨desc,hu,hkk⟩:=(zJ.get hT hd).u;obtain⟨us,h1,g⟩:=(qy H hG hx).1;refine .wp (u:=.iface t (a.eval x)) (fun xs ys=>by
    have:=GF g xs ys
    simp[Ex.ev,this,xS,h1]) fun h w K hK=>?_
   exact JG ho hu hkk hk.1 hk.2 hK
 ·cases h
theorem CZ(H:Rel st env nums a L)(hG:∀e∈G,Good env nums e (.bool true)):∀ {l:List Operand} {es:List Ex},allM (st.ex G) l=some es->zY env nums es (l.map a.eval)
 | [],es,h=>by simp only[allM]at h;cases h;trivial
 | x::l,es,h=>by
  simp only[allM]at h;split at h
  ·rename_i b r hb hr;cases h
   exact⟨x9 H hG hb,CZ H hG hr⟩
  ·cases h
theorem Vp(H:Rel st env nums a L)(hG:∀e∈G,Good env nums e (.bool true)){f:Fn}{xs ys:Array Operand}(ho:o.op=.makeFunc f xs ys)
  (h:zZ cfg st G o=some (.pure need v lr)):PG P S env nums a L o need v lr:=by
 cases f <;> simp only[zZ,ho]at h
 case func f=>
  split at h
  ·rename_i p q hp hq;cases h
   have g1:=GF (CZ H hG hp);have g2:=GF (CZ H hG hq);refine .sem (u:=.func (.func f) (xs.map a.eval) (ys.map a.eval)) (fun us vs=>?_) (Nr ho);simp[Ex.ev,g1 us vs,g2 us vs,xS];constructor <;> (apply Array.ext';simp)
  ·cases h
 all_goals cases h
theorem Qm(H:Rel st env nums a L)(hG:∀e∈G,Good env nums e (.bool true))(ho:o.op=.extract x i)
  (h:zZ cfg st G o=some (.pure need v lr)):PG P S env nums a L o need v lr:=by
 simp only[zZ,ho]at h;split at h
 ·rename_i cs hx;obtain⟨us,h1,g⟩:=(qy H hG hx).1;split at h
  ·rename_i c hc;cases h
   obtain⟨u,h2,h3⟩:=g.get i _ hc;simp only[j6,if_true]at h3;exact .sem (u:=u) h3 (GD ho h1 (by simpa using h2))
  ·rename_i c hc;cases h
   obtain⟨u,h2,h3⟩:=g.get i _ hc;simp only[j6,vK,if_false]at h3;obtain⟨e,h4,h5⟩:=h3;cases h4
   exact .sem (u:=u) h5 (GD ho h1 (by simpa using h2))
  ·cases h
 ·cases h
theorem JN{F:Array Field}{fs:List (Nat×TypeId)}(h:F.toList.map (fun f=>(f.offset,f.type))=fs){i off:Nat}(hf:fs[i]? = some (off,t)) :
  ∃fl,F[i]? = some fl/\fl.offset=off/\fl.type=t:=by
 subst h;rw[List.getElem?_map]at hf;obtain⟨fl,h1,h2⟩:=Option.map_eq_some_iff.1 hf;refine⟨fl,by simpa using h1,?_⟩;simpa using h2
theorem Nv(hT:zJ P cfg.tab)(H:Rel st env nums a L)(hG:∀e∈G,Good env nums e (.bool true))(ho:o.op=.fieldAddr t x i)
  (h:zZ cfg st G o=some (.pure need v lr)):PG P S env nums a L o need v lr:=by
 simp only[zZ,ho]at h;split at h
 ·rename_i p fs sz byt shs z tup hp hd;split at h
  ·rename_i off ft hf;split at h
   ·rename_i d hd2;split at h
    ·cases h
    ·rename_i hz;simp only[Bool.or_eq_true,decide_eq_true_eq,not_or,Bool.not_eq_true',Bool.not_eq_false]at hz;obtain⟨hz,ha⟩:=hz;have ha:p.qO=true:=by simpa using ha
     have g:=x9 H hG hp;obtain⟨q,hq⟩:=g.addr ha;obtain⟨desc,hu,F,rfl,hF⟩:=(zJ.get hT hd).u;obtain⟨fl,hfl,h1,h2⟩:=JN hF hf;obtain⟨ie,hi,hi2,_⟩:=(zJ.get hT hd2).i;have fin:∀(h:Heap) (w:World) (K:Next->World->Prop),K (.value (.pointer (some (q.add off)))) w->wpE P S h w.heap.size (execOp a.eval o) w K:=fun h w K hK=>
      Lx ho hq hu hfl (by rw[h2];exact hi) (by rw[hi2];simpa using hz) (by rw[h1];exact hK)
     split at h
     ·rename_i j o' _;cases h
      refine .wp (fun xs ys=>?_) fin;have:=g xs ys;simp only[Ex.ev]at this ⊢;rw[hq]at this;cases this
      unfold Addr.add;split
      ·rename_i h0;subst h0;simp
      ·rfl
     ·cases h
      rw[hq]at g;exact .wp (fun xs ys=>by simp[Ex.ev,g xs ys,xz,kZ]) fin
   ·cases h
  ·cases h
 ·cases h
theorem Td(hT:zJ P cfg.tab)(H:Rel st env nums a L)(hG:∀e∈G,Good env nums e (.bool true))(ho:o.op=.field t x i)
  (h:zZ cfg st G o=some (.pure need v lr)):PG P S env nums a L o need v lr:=by
 simp only[zZ,ho]at h;split at h
 ·rename_i cs fs sz byt shs z tup hp hd;split at h
  ·rename_i off ft hf;split at h
   ·rename_i d hd2;split at h
    ·rename_i hle;obtain⟨us,h1,g⟩:=(qy H hG hp).1;obtain⟨desc,hu,F,rfl,hF⟩:=(zJ.get hT hd).u;obtain⟨fl,hfl,h3,h4⟩:=JN hF hf;obtain⟨ie,hi,hi2,_⟩:=(zJ.get hT hd2).i;obtain⟨desc2,hu2,hag⟩:=(zJ.get hT hd2).agg;have ex:∀ {u:Value},(if kH d.k=true then u=.agg (us.toArray.extract off (off+d.sz))else us[off]? = some u) ->
       ∀(h:Heap) (w:World) (K:Next->World->Prop),K (.value u) w->wpE P S h w.heap.size (execOp a.eval o) w K:=by
      intro u hu3 h w K hK;refine RO ho h1 hu hfl (by rw[h4];exact hi) (by rw[h4];exact hu2) ?_;rw[hag,h3,hi2];split at hu3
      ·rename_i hk;rw[if_pos hk,<-hu3];exact hK
      ·rename_i hk;rw[if_neg hk];exact⟨u,by simpa using hu3,hK⟩
     have aggCase:kH d.k=true->PG P S env nums a L o [] (.agg ((cs.drop off).take d.sz)) none:=fun hk=>by
      refine .wp (u:=.agg ((us.drop off).take d.sz).toArray) ⟨_,rfl,g.sub off d.sz⟩ (ex ?_);rw[if_pos hk];simp[List.take_drop]
     split at h
     ·rename_i hk;cases h;exact aggCase hk
     ·rename_i hk;split at h
      ·rename_i c hc;cases h
       obtain⟨u,h5,h6⟩:=g.get off c hc;refine .wp h6 (ex ?_);rw[if_neg hk];simpa using h5
      ·cases h
    ·cases h
   ·cases h
  ·cases h
 ·cases h
theorem Te(hT:zJ P cfg.tab)(H:Rel st env nums a L)(hG:∀e∈G,Good env nums e (.bool true))(ho:o.op=.indexAddr t x y)
  (h:zZ cfg st G o=some (.pure need v lr)):PG P S env nums a L o need v lr:=by
 simp only[zZ,ho]at h;split at h
 ·rename_i p i d hp hi hd;split at h
  ·cases h
  ·rename_i hik;obtain⟨k,hk⟩:∃k,i.kI=some k:=by
    cases hh:i.kI with
    | none=>simp[hh]at hik
    | some k=>exact⟨k,rfl⟩
   have gp:=x9 H hG hp;have gi:=x9 H hG hi;obtain⟨n,hn⟩:=gi.int hk;rw[hn]at gi;split at h
   ·rename_i e hdk;split at h
    ·rename_i de hde;split at h
     ·rename_i hs;cases h
      obtain⟨q,l,c,hq⟩:=gp.slice hs;rw[hq]at gp;obtain⟨desc,hu,hkk⟩:=(zJ.get hT hd).u;rw[hdk]at hkk;simp only[jN]at hkk;subst hkk;obtain⟨ie,hie,hi2,_⟩:=(zJ.get hT hde).i;have c1:=Bw (HT gp);have c2:=kK (op:=.leq) (xd (env:=env) (nums:=nums) (.int .i64 0)) gi;have c3:=kK (op:=.lss) gi (Lz gp);refine⟨fun e he=>?_,fun hb=>?_⟩
      ·simp at he;rcases he with rfl | rfl | rfl
       ·exact⟨_,c1⟩
       ·exact⟨_,c2⟩
       ·exact⟨_,c3⟩
      ·have b1:=c1.CH (hb _ (by simp));have b2:=c2.CH (hb _ (by simp));have b3:=c3.CH (hb _ (by simp));simp[z9]at b2 b3;have ha:q.isSome:=by
        cases q with
        | none=>simp[x7]at b1
        | some q=>rfl
       refine⟨_,fun xs ys=>?_,fun L2 h w _ _ _=>Ot ho hq hn hu hie b2 b3 ha ⟨rfl,rfl⟩⟩;simp[Ex.ev,gp xs ys,gi xs ys,slA,toInt,hi2]
     ·cases h
    ·cases h
   ·rename_i len e hdk;split at h
    ·rename_i de hde;split at h
     ·cases h
     ·rename_i hc;simp only[Bool.or_eq_true,Bool.not_eq_true',decide_eq_true_eq,not_or,Bool.not_eq_false]at hc;obtain⟨had,hlen⟩:=hc;have had:p.qO=true:=by simpa using had
      obtain⟨q,hq⟩:=gp.addr had;obtain⟨desc,hu,hkk⟩:=(zJ.get hT hd).u;rw[hdk]at hkk;simp only[jN]at hkk;subst hkk;obtain⟨ie,hie,hi2,_⟩:=(zJ.get hT hde).i;have fin:0<=n->n<len->∀(h:Heap) (w:World) (K:Next->World->Prop),K (.value (.pointer (some (q.add (n.toNat*ie.size))))) w->wpE P S h w.heap.size (execOp a.eval o) w K:=
       fun h0 h1 h w K hK=>Ns ho hq hn hu hie h0 h1 hK
      split at h
      ·rename_i j o' k' c;split at h
       ·rename_i hc;cases h
        have hc2:=gi.at.symm.trans (xd (env:=env) (nums:=nums) _).at;simp only[Cst.val]at hc2;cases hc2
        refine .wp (fun xs ys=>?_) (fin hc.1 hc.2);have:=gp xs ys;simp only[Ex.ev]at this ⊢;rw[hq]at this;cases this
        rw[hi2];unfold Addr.add;split
        ·rename_i h0;rw[h0];simp
        ·rfl
       ·cases h
      ·cases h
      ·cases h
       rw[hq]at gp;have c2:=kK (op:=.leq) (xd (env:=env) (nums:=nums) (.int .i64 0)) gi;have c3:=kK (op:=.lss) gi (xd (env:=env) (nums:=nums) (.int .i64 len));refine⟨fun e he=>?_,fun hb=>?_⟩
       ·simp at he;rcases he with rfl | rfl
        ·exact⟨_,c2⟩
        ·exact⟨_,c3⟩
       ·have b2:=c2.CH (hb _ (by simp));have b3:=c3.CH (hb _ (by simp));simp[z9]at b2 b3;refine⟨_,fun xs ys=>?_,fun L2 h w _ _ _=>fin b2 b3 _ _ _ ⟨rfl,rfl⟩⟩;simp[Ex.ev,gp xs ys,gi xs ys,xz,kZ,toInt,hi2]
    ·cases h
   ·cases h
 ·cases h
theorem Vq(hT:zJ P cfg.tab)(H:Rel st env nums a L)(hG:∀e∈G,Good env nums e (.bool true))(ho:o.op=.load t x)
  (h:zZ cfg st G o=some (.pure need v lr)):PG P S env nums a L o need v lr:=by
 simp only[zZ,ho]at h;split at h
 ·rename_i p d hp hd;have key:∀j off,p=.loc j off->(match st.loc[j]? with
    | some (_,cs)=>if off+d.sz<=cs.length then
      (match allM (fun x:Option Ex=>x) ((cs.drop off).take d.sz)with
      | some xs=>if kH d.k=true then some (Eff.pure [] (.agg xs) (some j))else(match xs with | [x]=>some (.pure [] (.x x) (some j)) | _=>none)
      | none=>none)else none
    | none=>none)=some (.pure need v lr)->PG P S env nums a L o need v lr:=by
   rintro j off rfl h;have g:=x9 H hG hp;split at h
   ·rename_i T cs hl;split at h
    ·rename_i hle;split at h
     ·rename_i xs hxs;obtain⟨b,vs,h1,h2,h3,h4⟩:=H.bl j T cs hl;have hbj:nums.getD j 0=b:=by simp[h1]
      have hxp:a.eval x=.pointer (some ⟨b,off,none⟩):=by
       have:=g.at;simp only[Ex.ev,hbj]at this;exact this.symm
      obtain⟨l1,l2⟩:=kL hxs;have lc:((cs.drop off).take d.sz).length=d.sz:=by simp;omega
      have gl:zY env nums xs ((vs.drop off).take d.sz):=by
       refine .G9 (by rw[l1,lc];simp;omega) fun i e he=>?_
       have hi:i<d.sz:=by
        have:=(List.getElem?_eq_some_iff.1 he).1;omega
       obtain⟨y,hy1,hy2⟩:=l2 i (cs[off+i]'(by omega)) (by rw[List.getElem?_take,if_pos hi,List.getElem?_drop];exact List.getElem?_eq_getElem _);rw[he]at hy2;cases hy2
       obtain⟨u,hu1,hu2⟩:=h4 (off+i) e (by rw[<-hy1];exact List.getElem?_eq_getElem _);exact⟨u,by rw[List.getElem?_take,if_pos hi,List.getElem?_drop];exact hu1,hu2⟩
      obtain⟨desc,hu,hag⟩:=(zJ.get hT hd).agg;obtain⟨ie,hie,hi2,_⟩:=(zJ.get hT hd).i;have fin:∀ {u:Value},(if kH d.k=true then u=.agg ((vs.drop off).take d.sz).toArray else [u]=(vs.drop off).take d.sz)->∀L2 h w,Same ((some j).bind fun j=>nums[j]?) L L2->Has w (plus h L2)->Apart h L2 ->
        wpE P S (plus h L2) w.heap.size (execOp a.eval o) w (fun n w'=>n=.value u/\w'=w):=by
       intro u hu3 L2 h w hsame hw hap;have hL2:L2 b=some (.cells vs.toArray T):=hsame b _ (by simp[h1]) h2;have hwb:w.heap[b]? = some (.cells vs.toArray T):=(hw.right hap) b _ hL2;refine ME (vs:=(vs.drop off).take d.sz) ho hxp hu hie (by rw[hi2];simp;omega) (fun i y hy=>?_) ?_
       ·have hi:i<d.sz:=by
         have:=(List.getElem?_eq_some_iff.1 hy).1;simp at this;omega
        rw[List.getElem?_take,if_pos hi,List.getElem?_drop]at hy;refine⟨.inl ?_,?_⟩
        ·rw[add_block];show plus h L2 b≠none;unfold plus;cases h b <;> simp[hL2]
        ·have ea:(⟨b,off,none⟩:Addr).add i=⟨b,off+i,none⟩:=by
          unfold Addr.add;split
          ·rename_i h0;subst h0;rfl
          ·rfl
         rw[ea];simp[World.cell?,hwb,hy]
       ·rw[hag];split at hu3
        ·rename_i hk;rw[if_pos hk];exact⟨by rw[hu3],rfl⟩
        ·rename_i hk;rw[if_neg hk];exact⟨u,hu3.symm,rfl,rfl⟩
      split at h
      ·rename_i hk;cases h
       exact⟨by simp,fun _=>⟨_,⟨_,rfl,gl⟩,fin (by rw[if_pos hk])⟩⟩
      ·rename_i hk;split at h
       ·rename_i e;cases h
        cases hvs:(vs.drop off).take d.sz with
        | nil=>rw[hvs]at gl;exact gl.elim
        | cons u r=>
         rw[hvs]at gl;cases r with
         | cons _ _=>exact gl.2.elim
         | nil=>exact⟨by simp,fun _=>⟨u,gl.1,fin (by rw[if_neg hk,hvs])⟩⟩
       ·cases h
     ·cases h
    ·cases h
   ·cases h
  split at h
  ·cases h
  ·split at h
   ·exact key _ _ rfl h
   ·split at h <;> cases h
 ·cases h
theorem X3{b:Builtin}(hT:zJ P cfg.tab)(H:Rel st env nums a L)(hG:∀e∈G,Good env nums e (.bool true)){as:Array Operand}{ats:Array TypeId}(ho:o.op=.call { callee:=.builtin b,args:=as,argTypes:=ats })
  (h:zZ cfg st G o=some (.pure need v lr)):PG P S env nums a L o need v lr:=by
 simp only[zZ,ho]at h;have slt:∀ {t0:Option TypeId},(t0.bind cfg.ty).any (fun d=>match d.k with | .sl _=>true | _=>false)=true->∃t e,t0=some t/\P.underlying t=some (.slice e):=by
  intro t0 h;cases t0 with
  | none=>simp at h
  | some t=>
   simp only[Option.bind_some,Option.any_eq_true]at h;obtain⟨d,hd,h2⟩:=h;obtain⟨desc,hu,hk⟩:=(zJ.get hT hd).u;split at h2
   ·rename_i e he;rw[he]at hk;simp only[jN]at hk;subst hk;exact⟨t,e,rfl,hu⟩
   ·cases h2
 have one:∀ {es:List Ex} {e:Ex},allM (st.ex G) as.toList=some es->es=[e]->∃x,as=#[x]/\Good env nums e (a.eval x):=by
  rintro es e h rfl;have g:=CZ H hG h;obtain⟨l⟩:=as;cases l with
  | nil=>exact g.elim
  | cons x r=>
   cases r with
   | nil=>exact⟨x,rfl,g.1⟩
   | cons _ _=>exact g.2.elim
 have two:∀ {es:List Ex} {e f:Ex},allM (st.ex G) as.toList=some es->es=[e,f]->∃x y,as=#[x,y]/\Good env nums e (a.eval x)/\Good env nums f (a.eval y):=by
  rintro es e f h rfl;have g:=CZ H hG h;obtain⟨l⟩:=as
  match l,g with
  | [x,y],g=>exact⟨x,y,rfl,g.1,g.2.1⟩
 split at h
 ·rename_i e he;split at h
  ·rename_i hc;cases h
   simp only[Bool.and_eq_true,decide_eq_true_eq]at hc;obtain⟨x,hx,g⟩:=one he rfl;obtain⟨p,l,c,hp⟩:=g.slice hc.1;rw[hp]at g;obtain⟨t,e',h1,h2⟩:=slt hc.2;exact .wp (Lz g) fun h w K hK=>Vj ho hx hp h1 h2 hK
  ·cases h
 ·rename_i e he;split at h
  ·rename_i hc;cases h
   simp only[Bool.and_eq_true,decide_eq_true_eq]at hc;obtain⟨x,hx,g⟩:=one he rfl;obtain⟨p,l,c,hp⟩:=g.slice hc.1;rw[hp]at g;obtain⟨t,e',h1,h2⟩:=slt hc.2;exact .wp (QG g) fun h w K hK=>Vk ho hx hp h1 h2 hK
  ·cases h
 ·rename_i e f he;split at h
  ·rename_i hc;cases h
   simp only[Bool.and_eq_true,decide_eq_true_eq]at hc;obtain⟨x,y,hx,g1,g2⟩:=two he rfl;obtain⟨k,hk⟩:=Option.isSome_iff_exists.1 hc.1;obtain⟨m,hm⟩:=g1.int hk;obtain⟨n,hn⟩:=g2.int (hc.2▸hk);refine .wp (u:=.int k (if n<m then n else m)) (fun xs ys=>?_) fun h w K hK=>Vl ho hx hm hn hK
   simp only[Ex.ev,g1 xs ys,g2 xs ys,hm,hn,toInt];split <;> rfl
  ·cases h
 ·rename_i e f he;split at h
  ·rename_i hc;cases h
   simp only[Bool.and_eq_true,decide_eq_true_eq]at hc;obtain⟨x,y,hx,g1,g2⟩:=two he rfl;obtain⟨k,hk⟩:=Option.isSome_iff_exists.1 hc.1;obtain⟨m,hm⟩:=g1.int hk;obtain⟨n,hn⟩:=g2.int (hc.2▸hk);refine .wp (u:=.int k (if n>m then n else m)) (fun xs ys=>?_) fun h w K hK=>Vm ho hx hm hn hK
   simp only[Ex.ev,g1 xs ys,g2 xs ys,hm,hn,toInt];split <;> rfl
  ·cases h
 ·split at h
  ·split at h
   ·split at h <;> cases h
   ·cases h
  ·cases h
 ·cases h
end
end Go.Eng
namespace Go.Eng
open Go
variable {t:TypeId}{x:Operand}
section
variable {P:Program}{S:Shared}{cfg:Cfg}{st:St}{env:List Value}{nums:List Nat}{a:Act}{L:Heap}{G:List Ex}{o:Oper}{need:List Ex}{v:SV}{lr:Option Nat}
theorem LC(H:Rel st env nums a L)(hG:∀e∈G,Good env nums e (.bool true)){x:Option Operand}{es:List Ex}(h:allM (st.ex G) x.toList=some es)(hk:∀e∈es,e.kI.isSome=true) :
  (x=none/\es.head? = none)\/∃y e k n,x=some y/\es.head? = some e/\a.eval y=.int k n/\Good env nums e (.int k n):=by
 have g:=CZ H hG h;cases x with
 | none=>
  cases es with
  | nil=>exact .inl ⟨rfl,rfl⟩
  | cons _ _=>exact g.elim
 | some y=>
  cases es with
  | nil=>exact g.elim
  | cons e r=>
   obtain⟨k,hk'⟩:=Option.isSome_iff_exists.1 (hk e (by simp));obtain⟨n,hn⟩:=g.1.int hk';exact .inr ⟨y,e,k,n,rfl,rfl,hn,hn▸g.1⟩
theorem Tf(hT:zJ P cfg.tab)(H:Rel st env nums a L)(hG:∀e∈G,Good env nums e (.bool true)){lo hi m:Option Operand}(ho:o.op=.slice t x lo hi m)
  (h:zZ cfg st G o=some (.pure need v lr)):PG P S env nums a L o need v lr:=by
 simp only[zZ,ho]at h;split at h
 ·rename_i s d los his ms hs hd hlo hhi hm;split at h
  ·cases h
  ·rename_i hint;simp only[Bool.or_eq_true,not_or]at hint;obtain⟨hint,hmh0⟩:=hint;simp only[Bool.not_eq_true',Bool.not_eq_false,List.all_eq_true,List.mem_append,Option.mem_toList]at hint;have gs:=x9 H hG hs;have al:∀ {x:Option Operand} {es:List Ex},allM (st.ex G) x.toList=some es->∀e∈es,es.head? = some e:=by
    intro x es h e he;have:=(kL h).1;cases x with
    | none=>simp at this;subst this;simp at he
    | some y=>
     match es,this with
     | [z],_=>simp at he;simp[he]
   have i1:=LC H hG hlo fun e he=>hint e (.inl (.inl (al hlo e he)))
   have i2:=LC H hG hhi fun e he=>hint e (.inl (.inr (al hhi e he)))
   have i3:=LC H hG hm fun e he=>hint e (.inr (al hm e he))
   have hmh:hi=none->m=none:=by
    intro h0;rcases i3 with⟨h3,_⟩ | ⟨y,e,k,n,h3,h4,_⟩
    ·exact h3
    ·rcases i2 with⟨_,h2⟩ | ⟨y',_,_,_,h2,_⟩
     ·simp[h4,h2]at hmh0
     ·rw[h0]at h2;cases h2
   have bounds:∀(len cap:Nat) (el ec:Ex) (isS:Bool),Good env nums el (.int .i64 len)->Good env nums ec (.int .i64 cap) ->
     (∀e∈yd el ec isS los.head? his.head? ms.head?,∃b,Good env nums e (.bool b)) /\
     ((∀e∈yd el ec isS los.head? his.head? ms.head?,Good env nums e (.bool true)) ->
      ∃lo' hi' m':Option Int,(∀v,lo.map a.eval=some v->∃k n,v=.int k n/\lo'=some n)/\(lo.map a.eval=none->lo'=none) /\
       (∀v,hi.map a.eval=some v->∃k n,v=.int k n/\hi'=some n)/\(hi.map a.eval=none->hi'=none) /\
       (∀v,m.map a.eval=some v->∃k n,v=.int k n/\m'=some n)/\(m.map a.eval=none->m'=none)/\JI len cap lo' hi' m' /\
       ∀xs ys,qN 0 ((los.head?.getD .nl).ev (env++xs) (nums++ys))=(lo'.map Int.toNat).getD 0 /\
        qN len ((his.head?.getD .nl).ev (env++xs) (nums++ys))=(hi'.map Int.toNat).getD len /\
        qN cap ((ms.head?.getD .nl).ev (env++xs) (nums++ys))=(m'.map Int.toNat).getD cap):=by
    intro len cap el ec isS gl gc;have z:=xd (env:=env) (nums:=nums) (.int .i64 0);have leq:∀ {x y:Ex} {p q:Int} {k k':IntKind},Good env nums x (.int k p)->Good env nums y (.int k' q)->(∃b,Good env nums (.cm .leq x y) (.bool b))/\(Good env nums (.cm .leq x y) (.bool true)->p<=q):=
     fun h1 h2=>⟨⟨_,kK h1 h2⟩,fun hb=>by have:=(kK (op:=.leq) h1 h2).CH hb;simpa[z9]using this⟩
    rcases i3 with⟨rfl,e3⟩ | ⟨y3,x3,k3,n3,rfl,e3,v3,g3⟩ <;> rcases i2 with⟨rfl,e2⟩ | ⟨y2,x2,k2,n2,rfl,e2,v2,g2⟩ <;> rcases i1 with⟨rfl,e1⟩ | ⟨y1,x1,k1,n1,rfl,e1,v1,g1⟩
    all_goals first
     | (have:=hmh rfl;cases this;done)
     | skip
    ·rw[e1,e2,e3];refine⟨by cases isS <;> simp[yd],fun _=>⟨none,none,none,by simp,by simp,by simp,by simp,by simp,by simp,by simp[JI],fun xs ys=>?_⟩⟩;simp[Ex.ev,qN]
    ·rw[e1,e2,e3];refine⟨fun e he=>?_,fun hb=>⟨some n1,none,none,?_,by simp,by simp,by simp,by simp,by simp,?_,fun xs ys=>?_⟩⟩
     ·simp[yd]at he;rcases he with rfl | rfl
      ·exact(leq z g1).1
      ·exact(leq g1 gl).1
     ·intro v hv;simp at hv;exact⟨k1,n1,by rw[<-hv,v1],rfl⟩
     ·have b1:=(leq z g1).2 (hb _ (by simp[yd]));have b2:=(leq g1 gl).2 (hb _ (by simp[yd]));exact⟨by simp,by simp,fun x hx=>by cases hx;exact⟨b1,b2⟩,by simp⟩
     ·simp[Ex.ev,qN,g1 xs ys]
    ·rw[e1,e2,e3];refine⟨fun e he=>?_,fun hb=>⟨none,some n2,none,by simp,by simp,?_,by simp,by simp,by simp,?_,fun xs ys=>?_⟩⟩
     ·cases isS <;> simp[yd]at he
      all_goals
       rcases he with rfl | rfl
       ·exact(leq z g2).1
       ·exact(leq g2 gc).1
     ·intro v hv;simp at hv;exact⟨k2,n2,by rw[<-hv,v2],rfl⟩
     ·have b1:=(leq z g2).2 (hb _ (by cases isS <;> simp[yd]));have b2:=(leq g2 gc).2 (hb _ (by cases isS <;> simp[yd]));exact⟨by simp,fun x hx=>by cases hx;exact⟨b1,b2⟩,by simp,by simp⟩
     ·simp[Ex.ev,qN,g2 xs ys]
    ·rw[e1,e2,e3];refine⟨fun e he=>?_,fun hb=>⟨some n1,some n2,none,?_,by simp,?_,by simp,by simp,by simp,?_,fun xs ys=>?_⟩⟩
     ·simp[yd]at he;rcases he with rfl | rfl | rfl | rfl
      ·exact(leq z g2).1
      ·exact(leq g2 gc).1
      ·exact(leq z g1).1
      ·exact(leq g1 g2).1
     ·intro v hv;simp at hv;exact⟨k1,n1,by rw[<-hv,v1],rfl⟩
     ·intro v hv;simp at hv;exact⟨k2,n2,by rw[<-hv,v2],rfl⟩
     ·have b1:=(leq z g2).2 (hb _ (by simp[yd]));have b2:=(leq g2 gc).2 (hb _ (by simp[yd]));have b3:=(leq z g1).2 (hb _ (by simp[yd]));have b4:=(leq g1 g2).2 (hb _ (by simp[yd]));exact⟨by simp,fun x hx=>by cases hx;exact⟨b1,b2⟩,fun x hx=>by cases hx;exact⟨b3,b4⟩,by simp⟩
     ·simp[Ex.ev,qN,g1 xs ys,g2 xs ys]
    ·rw[e1,e2,e3];refine⟨fun e he=>?_,fun hb=>⟨none,some n2,some n3,by simp,by simp,?_,by simp,?_,by simp,?_,fun xs ys=>?_⟩⟩
     ·cases isS <;> simp[yd]at he
      all_goals
       rcases he with rfl | rfl | rfl | rfl
       ·exact(leq z g3).1
       ·exact(leq g3 gc).1
       ·exact(leq z g2).1
       ·exact(leq g2 g3).1
     ·intro v hv;simp at hv;exact⟨k2,n2,by rw[<-hv,v2],rfl⟩
     ·intro v hv;simp at hv;exact⟨k3,n3,by rw[<-hv,v3],rfl⟩
     ·have b1:=(leq z g3).2 (hb _ (by cases isS <;> simp[yd]));have b2:=(leq g3 gc).2 (hb _ (by cases isS <;> simp[yd]));have b3:=(leq z g2).2 (hb _ (by cases isS <;> simp[yd]));have b4:=(leq g2 g3).2 (hb _ (by cases isS <;> simp[yd]));exact⟨fun x hx=>by cases hx;exact⟨b1,b2⟩,fun x hx=>by cases hx;exact⟨b3,b4⟩,by simp,by simp⟩
     ·simp[Ex.ev,qN,g2 xs ys,g3 xs ys]
    ·rw[e1,e2,e3];refine⟨fun e he=>?_,fun hb=>⟨some n1,some n2,some n3,?_,by simp,?_,by simp,?_,by simp,?_,fun xs ys=>?_⟩⟩
     ·simp[yd]at he;rcases he with rfl | rfl | rfl | rfl | rfl | rfl
      ·exact(leq z g3).1
      ·exact(leq g3 gc).1
      ·exact(leq z g2).1
      ·exact(leq g2 g3).1
      ·exact(leq z g1).1
      ·exact(leq g1 g2).1
     ·intro v hv;simp at hv;exact⟨k1,n1,by rw[<-hv,v1],rfl⟩
     ·intro v hv;simp at hv;exact⟨k2,n2,by rw[<-hv,v2],rfl⟩
     ·intro v hv;simp at hv;exact⟨k3,n3,by rw[<-hv,v3],rfl⟩
     ·have b1:=(leq z g3).2 (hb _ (by simp[yd]));have b2:=(leq g3 gc).2 (hb _ (by simp[yd]));have b3:=(leq z g2).2 (hb _ (by simp[yd]));have b4:=(leq g2 g3).2 (hb _ (by simp[yd]));have b5:=(leq z g1).2 (hb _ (by simp[yd]));have b6:=(leq g1 g2).2 (hb _ (by simp[yd]));exact⟨fun x hx=>by cases hx;exact⟨b1,b2⟩,fun x hx=>by cases hx;exact⟨b3,b4⟩,fun x hx=>by cases hx;exact⟨b5,b6⟩,by simp⟩
     ·simp[qN,g1 xs ys,g2 xs ys,g3 xs ys]
   obtain⟨desc,hu,hkk⟩:=(zJ.get hT hd).u;split at h
   ·rename_i e hdk;split at h
    ·rename_i de hde;split at h
     ·rename_i hsl;cases h
      obtain⟨q,l,c,hq⟩:=gs.slice hsl;rw[hq]at gs;rw[hdk]at hkk;simp only[jN]at hkk;subst hkk;obtain⟨ie,hie,hi2,_⟩:=(zJ.get hT hde).i;obtain⟨n1,n2⟩:=bounds l c (.ln s) (.cp s) true (Lz gs) (QG gs);refine⟨n1,fun hb=>?_⟩;obtain⟨lo',hi',m',b1,b2,b3,b4,b5,b6,b7,b8⟩:=n2 hb;refine⟨qa de.sz q ((lo'.map Int.toNat).getD 0) ((hi'.map Int.toNat).getD l) ((m'.map Int.toNat).getD c),fun xs ys=>?_,fun L2 h w _ _ _=>Ou ho hq hu hie b1 b2 b3 b4 b5 b6 b7 ?_⟩
      ·obtain⟨c1,c2,c3⟩:=b8 xs ys;simp only[Ex.ev,gs xs ys,slA,slL,slC,c1,c2,c3]
      ·rw[hi2];exact⟨rfl,rfl⟩
     ·cases h
    ·cases h
   ·rename_i len e hdk;split at h
    ·rename_i de hde;split at h
     ·rename_i hsl;simp only[Bool.and_eq_true]at hsl;cases h
      obtain⟨q,hq⟩:=gs.addr hsl.1;rw[hq]at gs;rw[hdk]at hkk;simp only[jN]at hkk;subst hkk;obtain⟨ie,hie,hi2,_⟩:=(zJ.get hT hde).i;obtain⟨n1,n2⟩:=bounds len len (.cst (.int .i64 len)) (.cst (.int .i64 len)) false (xd _) (xd _);refine⟨n1,fun hb=>?_⟩;obtain⟨lo',hi',m',b1,b2,b3,b4,b5,b6,b7,b8⟩:=n2 hb;refine⟨qa de.sz (some q) ((lo'.map Int.toNat).getD 0) ((hi'.map Int.toNat).getD len) ((m'.map Int.toNat).getD len),fun xs ys=>?_,fun L2 h w _ _ _=>Nt ho hq hu hie b1 b2 b3 b4 b5 b6 b7 ?_⟩
      ·obtain⟨c1,c2,c3⟩:=b8 xs ys;simp only[Ex.ev,gs xs ys,xz,kZ,Option.getD_some,c1,c2,c3]
      ·rw[hi2];exact⟨rfl,rfl⟩
     ·cases h
    ·cases h
   ·cases h
 ·cases h
theorem F2(H:Rel st env nums a L)(hG:∀e∈G,Good env nums e (.bool true)):∀ {l:List (Nat×Operand)} {ps:List (Nat×List Ex)},
  allM (fun p:Nat×Operand=>((st.get G p.2).bind SV.cells).map fun cs=>(p.1,cs)) l=some ps->RQ env nums ps (l.map fun p=>(p.1,a.eval p.2))
 | [],ps,h=>by simp only[allM]at h;cases h;trivial
 | x::l,ps,h=>by
  simp only[allM]at h;split at h
  ·rename_i b r hb hr;cases h
   obtain⟨cs,hc,rfl⟩:=Option.map_eq_some_iff.1 hb;obtain⟨w,hw,hcs⟩:=Option.bind_eq_some_iff.1 hc;exact⟨rfl,IS (qy H hG hw).1 hcs,F2 H hG hr⟩
  ·cases h
theorem BU{z:List (Nat×Cst)}:zY env nums (BR z) ((jF z).map Cst.val):=by
 have key:∀(n:Nat) (c:Cst),zY env nums (List.replicate n (Ex.cst c)) ((List.replicate n c).map Cst.val):=by
  intro n c;induction n with
  | zero=>trivial
  | succ n ih=>exact⟨xd c,ih⟩
 induction z with
 | nil=>trivial
 | cons p r ih=>
  obtain⟨n,c⟩:=p;simp only[BR,jF,vF,List.map_append]at ih ⊢;exact(key n c).append ih
theorem Tg(hT:zJ P cfg.tab)(H:Rel st env nums a L)(hG:∀e∈G,Good env nums e (.bool true)){parts:Array (Nat×Operand)}(ho:o.op=.build t parts)
  (h:zZ cfg st G o=some (.pure need v lr)):PG P S env nums a L o need v lr:=by
 simp only[zZ,ho]at h;split at h
 ·rename_i n e sz byt shs z tup hd;split at h
  ·rename_i de hde;split at h
   ·rename_i ps hps;split at h
    ·rename_i hall;obtain⟨cs,hb,h2⟩:=Option.map_eq_some_iff.1 h;cases h2
     have gp:=F2 H hG hps;obtain⟨desc,hu,hkk⟩:=(zJ.get hT hd).u;simp only[jN]at hkk;subst hkk;obtain⟨i,hi,_,_,hz⟩:=(zJ.get hT hd).i;obtain⟨zv,hz1,hz2⟩:=hz z rfl;obtain⟨ie,hie,hi2,_⟩:=(zJ.get hT hde).i;obtain⟨us,hf,gu⟩:=HS (env:=env) (nums:=nums) (place:=fun i=>((List.range n).map fun i=>(i*de.sz,de.sz))[i]?) (fun i=>rfl) ps _ _ _ _ gp hb (BU (z:=z));have same:∀(qs:List (Nat×Value)) (c:Array Value),(∀q∈qs,q.1<n)->Instr.fill (fun i=>((List.range n).map fun i=>(i*de.sz,de.sz))[i]?) c qs=Instr.fill (fun k=>some (k*ie.size,ie.size)) c qs:=by
      intro qs;induction qs with
      | nil=>intros;rfl
      | cons q r ih=>
       intro c hq;obtain⟨k,w⟩:=q;have hk:k<n:=hq (k,w) (by simp);simp only[List.getElem?_map,hi2]at ih ⊢;simp only[Instr.fill,List.getElem?_range hk,Option.map_some];split
       ·rfl
       ·exact ih _ fun q' hq'=>hq q' (List.mem_cons_of_mem _ hq')
     refine .wp (u:=.agg us.toArray) ⟨us,rfl,gu⟩ fun h w K hK=>Nu ho hu hi hz1 hie ?_ hK
     rw[hz2,<-same]
     ·exact hf
     ·intro q hq;have hall:=List.all_eq_true.1 hall;obtain⟨p,hp,rfl⟩:=List.mem_map.1 hq;obtain⟨y,hy,hy2⟩:=F1 hps p hp;obtain⟨cs',_,rfl⟩:=Option.map_eq_some_iff.1 hy2;simpa using hall _ hy
    ·cases h
   ·cases h
  ·cases h
 ·rename_i fs sz byt shs z tup hd;split at h
  ·rename_i fs' ps hfs hps;obtain⟨cs,hb,h2⟩:=Option.map_eq_some_iff.1 h;cases h2
   have gp:=F2 H hG hps;obtain⟨desc,hu,F,rfl,hF⟩:=(zJ.get hT hd).u;obtain⟨i,hi,_,_,hz⟩:=(zJ.get hT hd).i;obtain⟨zv,hz1,hz2⟩:=hz z rfl;have hsz:∀f∈F.toList,∃i d,P.info? f.type=some i/\cfg.ty f.type=some d/\i.size=d.sz:=by
    intro f hf;have:(f.offset,f.type)∈fs:=by rw[<-hF];exact List.mem_map.2 ⟨f,hf,rfl⟩
    obtain⟨y,_,hy2⟩:=F1 hfs _ this;obtain⟨d,hd2,_⟩:=Option.map_eq_some_iff.1 hy2;obtain⟨ie,hie,hi2,_⟩:=(zJ.get hT hd2).i;exact⟨ie,d,hie,hd2,hi2⟩
   have hfs':fs'=F.toList.map fun f=>(f.offset,(cfg.ty f.type).elim 0 (·.sz)):=by
    apply List.ext_getElem?;intro k;obtain⟨l1,l2⟩:=kL hfs;rw[List.getElem?_map];cases hk:F.toList[k]? with
    | none=>
     have:fs.length<=k:=by
      have:=List.getElem?_eq_none_iff.1 hk;rw[<-hF];simpa using this
     simp[List.getElem?_eq_none (l1▸this)]
    | some f=>
     have h1:fs[k]? = some (f.offset,f.type):=by rw[<-hF,List.getElem?_map,hk];rfl
     obtain⟨y,hy1,hy2⟩:=l2 k _ h1;obtain⟨d,hd2,rfl⟩:=Option.map_eq_some_iff.1 hy1;rw[hy2];simp at hd2;simp[hd2]
   obtain⟨us,hf,gu⟩:=HS (env:=env) (nums:=nums) (place:=fun i=>fs'[i]?) (fun i=>rfl) ps _ _ _ _ gp hb (BU (z:=z));refine .wp (u:=.agg us.toArray) ⟨us,rfl,gu⟩ fun h w K hK=>Ow (sz:=fun f=>(cfg.ty f.type).elim 0 (·.sz)) ho hu hi hz1 (fun f hf=>?_) ?_ hK
   ·obtain⟨ie,d,h1,h2,h3⟩:=hsz f hf;exact⟨ie,h1,by rw[h2];exact h3⟩
   ·rw[hz2,<-hfs'];exact hf
  ·cases h
 ·cases h
theorem X4(H:Rel st env nums a L)(hG:∀e∈G,Good env nums e (.bool true)){c x y:Operand}(ho:o.op=.pick c x y)(h:HN st G c x y=some (.pure need v lr)):PG P S env nums a L o need v lr:=by
 unfold HN at h;split at h
 ·cases h
 ·rename_i ce hce;have gc:=x9 H hG hce;split at h
  ·cases h
  ·rename_i hb;simp only[Bool.not_eq_true',Bool.not_eq_false]at hb;obtain⟨b,hcb⟩:=gc.bool hb;rw[hcb]at gc;have run:∀ {z:Operand},(if b=true then a.eval x else a.eval y)=a.eval z->execOp a.eval o=Sem.pure (.value (a.eval z)):=by
    intro z hz;simp only[execOp,ho,hcb,asBool,<-hz];cases b <;> rfl
   split at h
   ·rename_i hk;obtain⟨w,h1,h2⟩:=Option.map_eq_some_iff.1 h;cases h2
    have:=xr (gc.uniq (k6 H ⟨_,gc⟩ hk));subst this;exact .sem (qy H hG h1).1 (run (by simp))
   ·rename_i hk;obtain⟨w,h1,h2⟩:=Option.map_eq_some_iff.1 h;cases h2
    have:=xr (gc.uniq (k6 H ⟨_,gc⟩ hk));subst this;exact .sem (qy H hG h1).1 (run (by simp))
   ·split at h
    ·rename_i ex ey hx hy;split at h
     ·rename_i hbb;simp only[Bool.and_eq_true]at hbb;cases h
      cases b with
      | true=>
       have gx:=x9 H (G:=ce::G) (fun e he=>by rcases List.mem_cons.1 he with rfl | he;exact gc;exact hG e he) hx;exact .sem (u:=a.eval x) (fun xs ys=>by simp[Ex.ev,gc xs ys,gx xs ys,toBool]) (run (by simp))
      | false=>
       have gy:=x9 H (G:=.nt ce::G) (fun e he=>by rcases List.mem_cons.1 he with rfl | he;exact Bw gc;exact hG e he) hy;exact .sem (u:=a.eval y) (fun xs ys=>by simp[Ex.ev,gc xs ys,gy xs ys,toBool]) (run (by simp))
     ·cases h
    ·cases h
end
end Go.Eng
namespace Go.Eng
open Go
variable {a:Addr}{v:Value}{b:Nat}{o:Obj}{S:Shared}{h:Heap}
section heaps
variable {L : Heap}{w:World}
theorem Kept.trans{h h' h'':Heap}{w w' w'':World}(A:Kept S h h' w w')(B:Kept S h' h'' w' w''):Kept S h h'' w w'':=
 ⟨B.os.trans A.os,B.tape.trans A.tape,B.output.trans A.output,Nat.le_trans A.size B.size,fun b hb hn=>by
  obtain⟨x1,x2⟩:=A.old b hb hn
  obtain⟨y1,y2⟩:=B.old b (Nat.lt_of_lt_of_le hb A.size) x2
  exact⟨y1.trans x1,y2⟩,B.has,fun b hb=>(B.ro b hb).trans (A.ro b hb)⟩
theorem GG(hb:b≠a.block):zQ h a v b=h b:=by simp[zQ,hb]
theorem DM:zQ h a v b=none<->h b=none:=by
 unfold zQ;split
 ·rename_i e;subst e;cases hh:h a.block with
  | none=>simp
  | some o=>cases o <;> simp
 ·exact Iff.rfl
theorem MF(hw:Has w h)(hb:h a.block≠none)(hs:¬S a.block):Kept S h (zQ h a v) w (w.setCell a v):=by
 refine⟨rfl,rfl,rfl,by simp[World.setCell],fun b _ hn=>⟨?_,DM.2 hn⟩,fun b o ho=>?_,fun b hb=>?_⟩
 ·have:b≠a.block:=fun e=>hb (e▸hn)
  simp[World.setCell,Array.getElem?_modify,Ne.symm this]
 ·unfold zQ at ho;simp only[World.setCell,Array.getElem?_modify];split at ho
  ·rename_i e;subst e;rw[if_pos rfl];cases hh:h a.block with
   | none=>rw[hh]at ho;cases ho
   | some x=>
    rw[hh]at ho;rw[hw _ _ hh];cases x <;> (cases ho;rfl)
  ·rename_i e;rw[if_neg (Ne.symm e)];exact hw _ _ ho
 ·exact GG fun e=>hs (e▸hb)
def j7(h:Heap)(a:Addr)(i:Nat)(us:List Value):Heap:=(us.zipIdx i).foldl (fun h p=>zQ h (a.add p.2) p.1) h
def NQ(w:World)(a:Addr)(i:Nat)(us:List Value):World:=(us.zipIdx i).foldl (fun w p=>w.setCell (a.add p.2) p.1) w
theorem F3(us:List Value):∀(i:Nat) (h:Heap) (w:World),Has w h->(us=[]\/(h a.block≠none/\¬S a.block))->Kept S h (j7 h a i us) w (NQ w a i us):=by
 induction us with
 | nil=>exact fun i h w hw _=>.refl hw
 | cons u r ih=>
  rintro i h w hw (h0 | ⟨hb,hs⟩)
  ·cases h0
  ·have k1:Kept S h (zQ h (a.add i) u) w (w.setCell (a.add i) u):=MF hw (by rw[add_block];exact hb) (by rw[add_block];exact hs);exact k1.trans (ih (i+1) _ _ k1.has (.inr ⟨fun h0=>hb (DM.1 h0),hs⟩))
theorem Th(hb:h a.block≠none):zQ (plus h L) a v=plus (zQ h a v) L:=by
 funext x;unfold zQ plus;by_cases hx:x=a.block
 ·subst hx;simp only[if_pos];cases hh:h a.block with
  | none=>exact absurd hh hb
  | some o=>cases o <;> simp
 ·simp[hx]
theorem RU(hb:h a.block=none):zQ (plus h L) a v=plus h (zQ L a v):=by
 funext x;unfold zQ plus;by_cases hx:x=a.block
 ·subst hx;simp[hb]
 ·simp[hx]
theorem JO(us:List Value):∀(i:Nat) (h:Heap),(us=[]\/h a.block≠none)->j7 (plus h L) a i us=plus (j7 h a i us) L:=by
 induction us with
 | nil=>intros;rfl
 | cons u r ih=>
  rintro i h (h0 | hb)
  ·cases h0
  ·show j7 (zQ (plus h L) (a.add i) u) a (i+1) r=plus (j7 (zQ h (a.add i) u) a (i+1) r) L;rw[Th (by rw[add_block];exact hb)];exact ih _ _ (.inr fun h0=>hb (DM.1 h0))
theorem Qn(us:List Value):∀(i:Nat) (L:Heap),h a.block=none->j7 (plus h L) a i us=plus h (j7 L a i us):=by
 induction us with
 | nil=>intros;rfl
 | cons u r ih=>
  intro i L hb;show j7 (zQ (plus h L) (a.add i) u) a (i+1) r=plus h (j7 (zQ L (a.add i) u) a (i+1) r);rw[RU (by rw[add_block];exact hb)];exact ih _ _ hb
theorem AI(us:List Value):∀(i:Nat) (h:Heap) (b:Nat),j7 h a i us b=none<->h b=none:=by
 induction us with
 | nil=>intros;exact Iff.rfl
 | cons u r ih=>intro i h b;exact(ih (i+1) _ b).trans DM
theorem Oz(us:List Value):∀(i:Nat) (h:Heap) (b:Nat),b≠a.block->j7 h a i us b=h b:=by
 induction us with
 | nil=>intros;rfl
 | cons u r ih=>intro i h b hb;exact(ih (i+1) _ b hb).trans (GG (by rw[add_block];exact hb))
theorem add_add(a:Addr)(i j:Nat):(a.add i).add j=a.add (i+j):=by
 unfold Addr.add;by_cases hi:i=0 <;> by_cases hj:j=0 <;> simp[hi,hj,Nat.add_assoc]
theorem F4{K:Heap->Prop}:∀(us:List Value) (i:Nat) (h:Heap),yk S a i us h K ->
  (∀j,j<us.length->xE S h (a.add (i+j)))/\K (j7 h a i us)
 | [],_,_,H=>⟨fun j hj=>by simp at hj,H⟩
 | u::r,i,h,⟨H1,H⟩=>by
  obtain⟨h2,h3⟩:=F4 r (i+1) _ H;refine⟨fun j hj=>?_,h3⟩;cases j with
  | zero=>exact H1
  | succ j=>
   obtain⟨⟨v,hv⟩,hf,hs⟩:=h2 j (by simpa using hj);rw[show i+1+j=i+(j+1) by omega]at hv hf hs;refine⟨?_,?_,hs⟩
   ·unfold zj zQ at hv;unfold zj;simp only[add_block,if_pos]at hv ⊢;cases hh:h a.block with
    | none=>rw[hh]at hv;cases hv
    | some o=>
     rw[hh]at hv;cases o <;> simp only at hv ⊢
     case cells c e f=>
      split at hv
      ·cases hv
      ·rename_i hsp;rw[if_neg hsp];by_cases hsp2:(a.add i).spot.isSome=true
       ·rw[if_pos hsp2]at hv;exact⟨v,hv⟩
       ·rw[if_neg hsp2]at hv;have:=(Array.getElem?_eq_some_iff.1 hv).1;exact⟨_,Array.getElem?_eq_getElem (by simpa using this)⟩
     all_goals cases hv
   ·unfold yN zQ at hf;unfold yN;simp only[add_block,if_pos]at hf ⊢;cases hh:h a.block with
    | none=>rfl
    | some o=>rw[hh]at hf;cases o <;> simp_all
theorem MG(hw:Has w h)(hb:h a.block≠none)(hf:yN h a=false):w.frozen? a=false:=by
 cases hh:h a.block with
 | none=>exact absurd hh hb
 | some o=>
  unfold yN at hf;unfold World.frozen?;rw[hw _ _ hh];rw[hh]at hf;cases o <;> simp_all
theorem GH(hw:Has w h)(hi:Inv S h)(o:Obj){d:Nat}:Kept S h (upd h w.heap.size o) w { w with drawn:=d,heap:=w.heap.push o }:=by
 have hnone:∀b,h b≠none->b<w.heap.size:=fun b hb=>by
  cases hh:h b with
  | none=>exact absurd hh hb
  | some x=>exact hw.lt hh
 refine⟨rfl,rfl,rfl,by simp,fun b hb hn=>⟨?_,?_⟩,fun b x hx=>?_,fun b hb=>?_⟩
 ·simp[Array.getElem?_push,Nat.ne_of_lt hb]
 ·simp[upd,Nat.ne_of_lt hb,hn]
 ·unfold upd at hx;split at hx
  ·rename_i e;subst e;cases hx;simp
  ·have:=hw.lt hx;simp[Array.getElem?_push,Nat.ne_of_lt this,hw _ _ hx]
 ·have:=hnone b (hi b hb);simp[upd,Nat.ne_of_lt this]
theorem Vr:plus (upd h b o) L=upd (plus h L) b o:=by
 funext x;unfold plus upd;by_cases hx:x=b <;> simp[hx]
theorem Ti(hb:h b=none):plus h (upd L b o)=upd (plus h L) b o:=by
 funext x;unfold plus upd;by_cases hx:x=b
 ·subst hx;simp[hb]
 ·simp[hx]
theorem Has.fresh(hw:Has w h):h w.heap.size=none:=by
 cases hh:h w.heap.size with
 | none=>rfl
 | some o=>exact absurd (hw.lt hh) (Nat.lt_irrefl _)
theorem Ok.inv2(H:Ok S h L):Inv S (plus h L):=fun b hb hn=>H.inv b hb (ye.1 hn).1
end heaps
def yy(env:List Value)(nums:List Nat)(pins:List (Nat×Ex×Ex))(ps:List (Nat×Addr×Value)):Prop:=
 ∀q∈ps,∃p∈pins,p.1=q.1/\Good env nums p.2.1 (.pointer (some q.2.1))/\Good env nums p.2.2 q.2.2/\p.2.1.within 1000000 0=true/\p.2.2.within 1000000 0=true
def NS(env:List Value)(nums:List Nat)(pins:List (Ex×Ex))(ps:List (Addr×Value)):Prop:=
 ∀q∈ps,∃p∈pins,Good env nums p.1 (.pointer (some q.1))/\Good env nums p.2 q.2/\p.1.within 1000000 0=true/\p.2.within 1000000 0=true
variable {env:List Value}{nums:List Nat}
theorem NS.tag{pins:List (Ex×Ex)}{ps:List (Addr×Value)}(H:NS env nums pins ps)(tag:Nat) :
  yy env nums (pins.map fun x=>(tag,x)) (ps.map fun x=>(tag,x)):=fun q hq=>by
 obtain⟨q',hq',rfl⟩:=List.mem_map.1 hq;obtain⟨p,hp,h⟩:=H q' hq';exact⟨(tag,p),List.mem_map.2 ⟨p,hp,rfl⟩,rfl,h⟩
variable {pins:List (Nat×Ex×Ex)}{ps:List (Nat×Addr×Value)}
theorem yy.ext(H:yy env nums pins ps)(vs:List Value)(ms:List Nat):yy (env++vs) (nums++ms) pins ps:=
 fun q hq=>let⟨p,h1,h0,h2,h3,h4⟩:=H q hq;⟨p,h1,h0,h2.ext _ _,h3.ext _ _,h4⟩
theorem Good.nl{e:Ex}{u:Value}{n:Nat}(H:Good env nums e u)(hw:e.within n 0=true):e.ev env []=u:=by
 rw[<-H.at];exact IQ env n [] nums e hw
theorem j8{P:Program}{Λ:Hand}{Q:Value->Heap->Prop}{t:Tr}{Ks:List Kt}
  (H:yy env nums pins ps)(hw:(j0 pins t).wp P S Λ Q env h Ks):yz (ps.map (·.2)) h/\t.wp P S Λ Q env h Ks:=by
 unfold j0 at hw;split at hw
 ·rename_i he;have:pins=[]:=by simpa using he
  subst this;exact⟨fun q hq=>by obtain⟨q',hq',rfl⟩:=List.mem_map.1 hq;obtain⟨p,hp,_⟩:=H q' hq';simp at hp,hw⟩
 ·obtain⟨h1,h2⟩:=hw;refine⟨fun q hq=>?_,h2⟩;obtain⟨q',hq',rfl⟩:=List.mem_map.1 hq;obtain⟨p,hp,_,g1,g2,w1,w2⟩:=H q' hq';have:=h1 p.2 (List.mem_map.2 ⟨p,hp,rfl⟩);rw[g1.nl w1,g2.nl w2]at this;exact this
def qP(P:Program)(S:Shared)(Λ:Hand)(Q:Value->Heap->Prop)(Ks:List Kt)(env:List Value)(nums:List Nat)(d:Nat)(k:List (Nat×Ex×Ex)->St->Option Tr)(ps:List (Nat×Addr×Value))
  (K:Act->Heap->Heap->Prop):Prop:=
 ∀st' pins' t' vs ms a' L' h',k pins' st'=some t'->t'.wp P S Λ Q (env++vs) h' Ks->Rel st' (env++vs) (nums++ms) a' L'->Ok S h' L'->yy (env++vs) (nums++ms) pins' ps->yz (ps.map (·.2)) h'->st'.d=d->K a' L' h'
theorem qQ:∀ {shs:List Sh} {vs:List Value} (env:List Value) (nums:List Nat),jv shs vs->zY (env++vs) nums (zi env.length shs) vs
 | [],[],_,_,_=>trivial
 | s::r,v::vs,env,nums,⟨h1,h2⟩=>by
  have ih:=qQ (env++[v]) nums h2;rw[List.append_assoc,List.singleton_append,List.length_append,List.length_singleton]at ih;refine⟨fun xs ys=>?_,ih⟩;simp[Ex.ev,h1]
 | [],_::_,_,_,h=>h.elim
 | _::_,[],_,_,h=>h.elim
theorem k8:∀ {shs:List Sh} {vs:List Value},jv shs vs->vs.length=shs.length
 | [],[],_=>rfl
 | _::_,_::_,⟨_,h2⟩=>by simp[k8 h2]
 | [],_::_,h=>h.elim
 | _::_,[],h=>h.elim
end Go.Eng
namespace Go.Eng
open Go
variable {x:Operand}{ad:Addr}{vs:List Value}{es:List Ex}{p:Ex}
section
variable {P:Program}{S:Shared}{cfg:Cfg}{st:St}{env:List Value}{nums:List Nat}{a:Act}{L h:Heap}{G:List Ex}{o:Oper}{need:List Ex}{v:SV}{lr:Option Nat}
def Eff.GI:Eff->Bool | .pure .. => true | _=>false
def qd(o:Oper):Bool:=match o.op with
 | .load .. | .store .. | .alloc _ | .box .. | .buildSlice .. | .makeSlice .. | .convert .. => true
 | .call { callee:=.builtin .append,.. } | .call { callee:=.value _,.. } | .call { callee:=.invoke _ _,.. }=>true
 | _=>false
theorem O0(hT:zJ P cfg.tab)(H:Rel st env nums a L)(hG:∀e∈G,Good env nums e (.bool true))(h:jY cfg st G o=some (.pure need v lr)):PG P S env nums a L o need v lr:=by
 unfold jY at h;split at h
 ·rename_i c x y ho;exact X4 H hG ho h
 ·cases ho:o.op with
  | move x=>exact Ox H hG (.inl ho) h
  | assign x=>exact Ox H hG (.inr ho) h
  | binOp op xt x y yt=>exact X1 hT H hG ho h
  | unOp op xt x=>exact YR H hG ho h
  | convert src dst x=>exact Ql hT H hG ho h
  | nilCheck x=>exact Oy H hG ho h
  | makeInterface t x=>exact SZ hT H hG ho h
  | makeFunc f x y=>exact Vp H hG ho h
  | extract x i=>exact Qm H hG ho h
  | fieldAddr t x i=>exact Nv hT H hG ho h
  | field t x i=>exact Td hT H hG ho h
  | indexAddr t x i=>exact Te hT H hG ho h
  | load t x=>exact Vq hT H hG ho h
  | slice t x lo hi m=>exact Tf hT H hG ho h
  | build t ps=>exact Tg hT H hG ho h
  | call c=>
   obtain⟨callee,args,ats⟩:=c;cases callee with
   | builtin b=>exact X3 hT H hG ho h
   | _=>simp only[zZ,ho]at h;repeat' (first | cases h | split at h)
  | _=>simp only[zZ,ho]at h;repeat' (first | cases h | split at h)
def qG(agg:Bool)(vs:List Value):Value:=if agg then .agg vs.toArray else match vs with | [v]=>v | _=>undef
theorem Vs{t:TypeId}{desc:TypeDesc}{i:TypeInfo}{agg:Bool}(ho:o.op=.load t x)(hx:a.eval x=.pointer (some ad))(ht:P.underlying t=some desc)
  (hag:wF desc=agg)(hi:P.info? t=some i)(hl:i.size=vs.length)(h1:agg=true\/vs.length=1){h2 L2:Heap}{w:World}(hw:Has w (plus h2 L2))(hc:∀(j:Nat) v,vs[j]? = some v->zj h2 (ad.add j)=some v) :
  wpE P S (plus h2 L2) w.heap.size (execOp a.eval o) w (fun n w'=>n=.value (qG agg vs)/\w'=w):=by
 refine ME ho hx ht hi hl (fun j v hv=>⟨.inl ?_,jw hw.left (hc j v hv)⟩) ?_
 ·have:=jc (hc j v hv);exact fun h0=>this (ye.1 h0).1
 ·rw[hag];unfold qG;cases agg with
  | true=>simp
  | false=>
   simp only[vK,false_or]at h1 ⊢
   match vs,h1 with
   | [v],_=>exact⟨v,rfl,rfl,trivial⟩
def EH(agg:Bool)(vs:List Ex):SV:=if agg then .agg vs else match vs with | [x]=>.x x | _=>.junk
theorem Qo{agg:Bool}(g:zY env nums es vs)(h1:agg=true\/vs.length=1):xU env nums (EH agg es) (qG agg vs):=by
 unfold EH qG;cases agg with
 | true=>exact⟨vs,rfl,g⟩
 | false=>
  simp only[vK,false_or,if_false]at h1 ⊢
  match vs,es,g,h1 with
  | [v],[e],g,_=>exact g.1
def Da(a:Ex)(agg:Bool)(vs:List Ex):List (Ex×Ex):=match agg,vs with | false,[x]=>[(a,x)] | _,vs=>vs.zipIdx.map fun(x,i)=>(Ex.fld a i,x)
theorem Vt(off:Nat)(h:Good env nums p (.pointer (some ad))):Good env nums (.fld p off) (.pointer (some (ad.add off))):=
 fun xs ys=>by simp[Ex.ev,h xs ys,xz,kZ]
theorem En:∀ {shs:List Sh} {n:Nat},∀e∈zi n shs,∃s i,e=.var s i/\i<n+shs.length
 | [],_,e,he=>by simp[zi]at he
 | s::r,n,e,he=>by
  rcases List.mem_cons.1 he with h1 | h1
  ·exact⟨s,n,h1,by simp⟩
  ·obtain⟨s',i,h2,h3⟩:=En e h1;exact⟨s',i,h2,by simp;omega⟩
theorem Qp{agg:Bool}(hp:Good env nums p (.pointer (some ad)))(hw:p.within 1000000 0=true)(g:zY env nums es vs)
  (hes:∀e∈es,e.within 1000000 0=true):NS env nums (Da p agg es) (vs.zipIdx.map fun x=>(ad.add x.2,x.1)):=by
 have gen:NS env nums (es.zipIdx.map fun x=>(Ex.fld p x.2,x.1)) (vs.zipIdx.map fun x=>(ad.add x.2,x.1)):=by
  intro q hq;obtain⟨⟨v,i⟩,hx,rfl⟩:=List.mem_map.1 hq;have hvi:vs[i]? = some v:=by simpa using List.mem_zipIdx_iff_getElem?.1 hx
  have hlt:i<es.length:=by
   have:=(List.getElem?_eq_some_iff.1 hvi).1;rw[g.len];exact this
  obtain⟨u,hu1,hu2⟩:=g.get i _ (List.getElem?_eq_getElem hlt);rw[hvi]at hu1;cases hu1
  refine⟨(Ex.fld p i,es[i]),List.mem_map.2 ⟨(es[i],i),List.mem_zipIdx_iff_getElem?.2 (by simp[hlt]),rfl⟩,Vt i hp,hu2,?_,hes _ (List.getElem_mem _)⟩;simpa[Ex.within]using hw
 unfold Da;split
 ·rename_i x;cases vs with
  | nil=>exact g.elim
  | cons v r=>cases r with
   | cons _ _=>exact g.2.elim
   | nil=>
    intro q hq;simp only[List.zipIdx_cons,List.zipIdx_nil,vD,vE,List.mem_singleton]at hq;subst hq;exact⟨(p,x),by simp,by simpa[Addr.add]using hp,g.1,hw,hes _ (by simp)⟩
 ·exact gen
theorem OpW.same{K:Value->Heap->Heap->Prop}{u:Value}(ha:Ok S h L)(H:∀w,Has w (plus h L)->wpE P S (plus h L) w.heap.size (execOp a.eval o) w (fun n w'=>n=.value u/\w'=w))(hk:K u L h) :
  OpW P S o a.eval L h K:=
 .step fun w hw=>kX _ (H w hw) fun n w' ⟨h1,h2⟩=>⟨u,L,h,.inl h1,ha,(by rw[h2];exact .refl hw),.refl _ _,hk⟩
variable {Λ:Hand}{Q:Value -> Heap -> Prop}{Ks:List Kt}{k:List (Nat × Ex × Ex) -> St -> Option Tr}{pins:List (Nat × Ex × Ex)}{tag:Nat}{ps:List (Nat × Addr × Value)}{K:Act -> Heap -> Heap -> Prop}{t:Tr}{e:Eff}
theorem O8(hT:zJ P cfg.tab)(H:Rel st env nums a L)(hG:∀e∈G,Good env nums e (.bool true)){ty:TypeId}{agg:Bool}{shs:List Sh}(ho:o.op=.load ty x)
  (he:zZ cfg st G o=some (.load p agg shs))(hk:xC st o.dst [] tag pins (.load p agg shs) k=some t)(hw:t.wp P S Λ Q env h Ks) :
  ∃(vs qvs:List Value) (u:Value) (t':Tr) (ad:Addr),jv shs vs/\qvs=vs/\k ((Da p agg (zi st.n shs)).map (fun x=>(tag,x))++pins) ({ st with n:=st.n+shs.length }.put o.dst ⟨[],EH agg (zi st.n shs)⟩)=some t' /\
   t'.wp P S Λ Q (env++vs) h Ks/\xU (env++vs) nums (EH agg (zi st.n shs)) u /\
   yy (env++vs) nums ((Da p agg (zi st.n shs)).map (fun x=>(tag,x))) ((vs.zipIdx.map fun x=>(ad.add x.2,x.1)).map (fun x=>(tag,x)))/\yz (vs.zipIdx.map fun x=>(ad.add x.2,x.1)) h /\
   ∀h2 L2 w,yz (vs.zipIdx.map fun x=>(ad.add x.2,x.1)) h2->Has w (plus h2 L2)->wpE P S (plus h2 L2) w.heap.size (execOp a.eval o) w (fun n w'=>n=.value u/\w'=w):=by
 have e0:nums=nums++[]:=by simp
 simp only[zZ,ho]at he;split at he
 ·rename_i p' d hp hd;have hshape:p'=p/\kH d.k=agg/\d.shs=shs/\p'.qO=true/\d.shs.length=d.sz/\(kH d.k=true\/d.sz=1):=by
   split at he
   ·cases he
   ·rename_i hadr;split at he
    ·repeat' (first | cases he | split at he)
    ·split at he
     ·rename_i hc;cases he
      simp only[Bool.and_eq_true,Bool.or_eq_true,beq_iff_eq]at hc;exact⟨rfl,rfl,rfl,by simpa using hadr,hc.1,hc.2⟩
     ·cases he
  obtain⟨rfl,hag,hsh,hadr,hlen,hone⟩:=hshape;have g:=x9 H hG hp;obtain⟨ad,had⟩:=g.addr hadr;rw[had]at g;simp only[xC]at hk;split at hk
  ·cases hk
  ·rename_i hwi;simp only[Bool.or_eq_true,not_or,Bool.not_eq_true',Bool.not_eq_false,decide_eq_false_iff_not,Decidable.not_not]at hwi;obtain⟨hwi,hbig⟩:=hwi;obtain⟨t',hk1,rfl⟩:=Option.map_eq_some_iff.1 hk;obtain⟨vs,hv1,hv2,hv3⟩:=(ky _ _).1 hw;have hnl:p'.ev env []=.pointer (some ad):=g.nl hwi;rw[hnl]at hv2;have zj:=fun j v hj=>AG (i:=0) hv2 j v hj
   simp only[Nat.zero_add]at zj;have lvs:=k8 hv1;have gl:zY (env++vs) nums (zi st.n shs) vs:=by rw[H.n];exact qQ env nums hv1
   obtain⟨desc,hu,hda⟩:=(zJ.get hT hd).agg;obtain⟨i,hi,hi2,_⟩:=(zJ.get hT hd).i;have h1:agg=true\/vs.length=1:=by
    rcases hone with h | h
    ·exact .inl (hag▸h)
    ·right;rw[lvs,<-hsh,hlen];exact h
   have toCell:∀ {h2},yz (vs.zipIdx.map fun x=>(ad.add x.2,x.1)) h2->∀(j:Nat) v,vs[j]? = some v->Eng.zj h2 (ad.add j)=some v:=fun hpn j v hj=>
    hpn (ad.add j,v) (List.mem_map.2 ⟨(v,j),List.mem_zipIdx_iff_getElem?.2 hj,rfl⟩)
   refine⟨vs,vs,qG agg vs,t',ad,hv1,rfl,hk1,hv3,Qo gl h1,?_,?_,?_⟩
   ·refine(Qp ?_ hwi gl ?_).tag tag
    ·have:=g.ext vs [];rwa[<-e0]at this
    ·intro e he;obtain⟨s,i,rfl,hi⟩:=En e he;simp[Ex.within];omega
   ·intro q hq;obtain⟨⟨v,j⟩,hx,rfl⟩:=List.mem_map.1 hq;exact zj j v (by simpa using List.mem_zipIdx_iff_getElem?.1 hx)
   ·intro h2 L2 w hpn hh;exact Vs ho had hu (hda.trans hag) hi (by rw[hi2,<-hlen,hsh,lvs]) h1 hh (toCell hpn)
 ·cases he
end
end Go.Eng
namespace Go.Eng
open Go
variable {u:Value}{st':St}{a':Act}{L' h':Heap}{es:List Ex}{us:List Value}
section
variable {P:Program}{S:Shared}{cfg:Cfg}{st:St}{env:List Value}{nums:List Nat}{a:Act}{L h:Heap}{G:List Ex}{o:Oper}
theorem Rel.Am(H:Rel st env nums a L)(dst:Option Tmp){v:SV}(hv:xU env nums v u):Rel (st.put dst ⟨[],v⟩) env nums (a.put dst u) L:=
 H.put dst (by simp) (fun _=>hv) (by rintro⟨e,he,_⟩;simp at he)
theorem jQ(dst:Option Tmp)(v:GV):(st.put dst v).d=st.d:=by cases dst <;> rfl
variable {Λ:Hand}{Q:Value -> Heap -> Prop}{Ks:List Kt}{k:List (Nat × Ex × Ex) -> St -> Option Tr}{pins pins' : List (Nat × Ex × Ex)}{tag:Nat}{ps:List (Nat × Addr × Value)}{K:Act -> Heap -> Heap -> Prop}{t t' : Tr}{e:Eff}{d:Nat}
theorem qP.go0(hc:qP P S Λ Q Ks env nums d k ps K)(h1:k pins' st'=some t')(h2:t'.wp P S Λ Q env h' Ks)(h3:Rel st' env nums a' L')(h4:Ok S h' L')
  (h5:yy env nums pins' ps)(h6:yz (ps.map (·.2)) h')(h7:st'.d=d):K a' L' h':=hc st' pins' t' [] [] a' L' h' h1 (by simpa using h2) (by simpa using h3) h4 (by simpa using h5) h6 h7
theorem qP.go1(hc:qP P S Λ Q Ks env nums d k ps K)(vs:List Value)(h1:k pins' st'=some t')(h2:t'.wp P S Λ Q (env++vs) h' Ks)(h3:Rel st' (env++vs) nums a' L')(h4:Ok S h' L')
  (h5:yy (env++vs) nums pins' ps)(h6:yz (ps.map (·.2)) h')(h7:st'.d=d):K a' L' h':=hc st' pins' t' vs [] a' L' h' h1 h2 (by simpa using h3) h4 (by simpa using h5) h6 h7
theorem yy.kA(H:yy env nums pins ps)(vs:List Value):yy (env++vs) nums pins ps:=by simpa using H.ext vs []
theorem Good.kA{e:Ex}(H:Good env nums e u)(vs:List Value):Good (env++vs) nums e u:=by simpa using H.ext vs []
theorem zY.kA(H:zY env nums es us)(vs:List Value):zY (env++vs) nums es us:=by simpa using H.ext vs []
theorem RV{e:Ex}(H:Good env nums e u)(hs:e.scalar=true):Bt u:=by
 refine⟨GA H hs,?_⟩;unfold Ex.scalar at hs;split at hs
 ·cases hs
 ·cases hs
 ·rename_i s hne hsome;have:=H.sh hsome;rw[<-this];cases s with
  | iface=>simp only[coerce];cases u <;> simp[kv]
  | fnv=>simp only[coerce];cases u <;> simp[Aj]
  | any=>exact(hne rfl).elim
  | _=>simp[coerce]
theorem zY.one(g:zY env nums es us)(hs:es.all Ex.scalar=true):∀v∈us,Bt v:=by
 intro v hv;obtain⟨i,hi,rfl⟩:=List.getElem_of_mem hv;have hl:=g.len;obtain⟨u,h1,h2⟩:=g.get i _ (List.getElem?_eq_getElem (by omega));rw[List.getElem?_eq_getElem hi]at h1;cases h1
 exact RV h2 (List.all_eq_true.1 hs _ (List.getElem_mem _))
theorem zY.nl(g:zY env nums es us)(hs:es.all (·.within 1000000 0)=true):es.map (Ex.ev env [])=us:=by
 induction es generalizing us with
 | nil=>cases us with
  | nil=>rfl
  | cons _ _=>exact g.elim
 | cons e r ih=>
  cases us with
  | nil=>exact g.elim
  | cons u s=>
   simp only[List.all_cons,Bool.and_eq_true]at hs;simp[g.1.nl hs.1,ih g.2 hs.2]
theorem Qq{b off:Nat}{T:TypeId}:∀(us:List Value) (i:Nat) (h:Heap) (vs:List Value),h b=some (.cells vs.toArray T)->j7 h ⟨b,off,none⟩ i us b=some (.cells (AH vs (off+i) us).toArray T):=by
 intro us;induction us with
 | nil=>intro i h vs hb;exact hb
 | cons u r ih=>
  intro i h vs hb;have ea:(⟨b,off,none⟩:Addr).add i=⟨b,off+i,none⟩:=by
   unfold Addr.add;split
   ·rename_i h0;subst h0;rfl
   ·rfl
  have:zQ h ((⟨b,off,none⟩:Addr).add i) u b=some (.cells (vs.set (off+i) u).toArray T):=by
   rw[ea];simp[zQ,hb]
  have:=ih (i+1) _ _ this;exact this
theorem O9(xs:List Ex):∀(cs:List (Option Ex)) (off:Nat),(setCells cs off xs).length=cs.length:=by
 induction xs with
 | nil=>intros;rfl
 | cons x r ih=>intro cs off;simp[setCells,ih]
theorem FY:∀ {xs:List Ex} {us:List Value} {cs:List (Option Ex)} {vs:List Value} {off:Nat},zY env nums xs us->vs.length=cs.length ->
  (∀(o:Nat) e,cs[o]? = some (some e)->∃u,vs[o]? = some u/\Good env nums e u)->∀(o:Nat) e,(setCells cs off xs)[o]? = some (some e)->∃u,(AH vs off us)[o]? = some u/\Good env nums e u
 | [],[],_,_,_,_,_,hh=>hh
 | x::xs,u::us,cs,vs,off,g,hl,hh=>by
  refine FY (xs:=xs) (us:=us) (cs:=cs.set off (some x)) (vs:=vs.set off u) (off:=off+1) g.2 (by simp[hl]) fun o e he=>?_
  rw[List.getElem?_set]at he ⊢;split at he
  ·rename_i ho;subst ho;split at he
   ·rename_i hlt;cases he
    exact⟨u,by rw[if_pos rfl,if_pos (by omega)],g.1⟩
   ·cases he
  ·rename_i ho;rw[if_neg ho];exact hh o e he
 | [],_::_,_,_,_,g,_,_=>g.elim
 | _::_,[],_,_,_,g,_,_=>g.elim
theorem Vu(hT:zJ P cfg.tab)(H:Rel st env nums a L)(ha:Ok S h L)(hG:∀e∈G,Good env nums e (.bool true)){ty:TypeId}{x y:Operand}(ho:o.op=.store ty x y)
  (he:zZ cfg st G o=some e)(hk:xC st o.dst [] tag pins e k=some t)(hw:t.wp P S Λ Q env h Ks)(hpr:yy env nums pins ps)(hps:yz (ps.map (·.2)) h)(hc:qP P S Λ Q Ks env nums st.d k ps K) :
  OpW P S o a.eval L h (fun v L' h'=>yz (ps.map (·.2)) h'/\K (a.put o.dst v) L' h'):=by
 simp only[zZ,ho]at he;split at he
 ·rename_i p cs d hp hcs hd;split at he
  ·cases he
  ·rename_i hcond;simp only[Bool.or_eq_true,not_or,Bool.not_eq_true',Bool.not_eq_false,decide_eq_true_eq,Decidable.not_not]at hcond;obtain⟨⟨hadr,hlen⟩,hsc⟩:=hcond;have g:=x9 H hG hp;obtain⟨ad,had⟩:=g.addr hadr;rw[had]at g;obtain⟨w0,hw0,hw1⟩:=Option.bind_eq_some_iff.1 hcs;obtain⟨us,hus,gus⟩:=IS (qy H hG hw0).1 hw1;have hone:=gus.one hsc;obtain⟨i,hi,hi2,_⟩:=(zJ.get hT hd).i;have hlus:us.length=i.size:=by rw[<-gus.len,hlen,hi2]
   have hwb:kG o a.eval=some ad.block:=by simp[kG,ho,had]
   split at he
   ·
    rename_i j off;split at he
    ·rename_i hle;cases he
     simp only[xC]at hk;cases hl:st.loc[j]? with
     | none=>
      rw[hl]at hle;simp at hle
     | some Tc=>
      obtain⟨T,cs0⟩:=Tc;rw[hl]at hle;simp at hle;obtain⟨b,vs,h1,h2,h3,h4⟩:=H.bl j T cs0 hl;have hbj:nums.getD j 0=b:=by simp[h1]
      have hadb:ad=⟨b,off,none⟩:=by
       have:=g.at;simp only[Ex.ev,hbj]at this;cases this;rfl
      subst hadb;have hhb:h b=none:=ha.apart b (by rw[h2];simp);have hsb:¬S b:=fun hs=>ha.inv b hs hhb
      refine .step fun w hh=>?_
      have hwb2:w.heap[b]? = some (.cells vs.toArray T):=(hh.right ha.apart) b _ h2;have ea:∀j,(⟨b,off,none⟩:Addr).add j=⟨b,off+j,none⟩:=fun j=>by
       unfold Addr.add;split
       ·rename_i h0;subst h0;rfl
       ·rfl
      refine JJ ho had hus hi hlus hone (.inl (by simp[plus,hhb,h2])) hsb (fun j hj=>?_) ?_
      ·rw[ea];refine⟨⟨vs[off+j]'(by have:=gus.len;omega),?_⟩,?_⟩
       ·simp[World.cell?,hwb2]
       ·simp[World.frozen?,hwb2]
      ·have hkept:Kept S (plus h L) (j7 (plus h L) ⟨b,off,none⟩ 0 us) w (NQ w ⟨b,off,none⟩ 0 us):=F3 us 0 _ _ hh (.inr ⟨by simp[plus,hhb,h2],hsb⟩);rw[Qn us 0 L hhb]at hkept;have hok:Ok S h (j7 L ⟨b,off,none⟩ 0 us):=⟨fun x hx=>ha.apart x fun h0=>hx ((AI us 0 L x).2 h0),ha.inv⟩;refine⟨undef,_,h,.inr ⟨rfl,rfl⟩,hok,hkept,?_,hps,?_⟩
       ·intro x ob hx hL;rw[hwb]at hx;rw[Oz us 0 L x (fun e=>hx (by rw[e]))];exact hL
       ·refine hc.go0 hk hw (Rel.Am ?_ o.dst (v:=.junk) trivial) hok hpr hps (jQ _ _);refine⟨H.n,by simp[H.m],H.sz,H.df,H.gd,H.vl,H.uv,?_,H.nd,H.kn⟩;intro j' T' cs' hj';rw[List.getElem?_modify]at hj';by_cases hjj:j=j'
        ·subst hjj;simp only[if_true,hl,Option.map_eq_map,Option.map_some]at hj';cases hj'
         refine⟨b,AH vs off us,h1,?_,by rw[SW,O9];exact h3,FY gus h3 h4⟩;exact Qq us 0 L vs h2
        ·simp only[hjj,if_false,Option.map_eq_map,Option.map_id']at hj';obtain⟨b',vs',k1,k2,k3,k4⟩:=H.bl j' T' cs' hj';have hbb:b'≠b:=fun e=>by
          subst e;obtain⟨l1,e1⟩:=List.getElem?_eq_some_iff.1 h1;obtain⟨l2,e2⟩:=List.getElem?_eq_some_iff.1 k1;exact hjj ((List.getElem_inj H.nd).1 (e1.trans e2.symm))
         exact⟨b',vs',k1,by rw[Oz us 0 L b' hbb];exact k2,k3,k4⟩
    ·cases he
   ·
    split at he
    ·rename_i hall;cases he
     simp only[Bool.and_eq_true,Bool.not_eq_true']at hall;simp only[xC]at hk;split at hk
     ·cases hk
     ·rename_i hwi;simp only[Bool.not_eq_true',Bool.not_eq_false]at hwi;obtain⟨t',hk1,rfl⟩:=Option.map_eq_some_iff.1 hk;simp only[Tr.wp]at hw;rw[g.nl hwi,gus.nl hall.1]at hw;simp only[xz,kZ,Option.getD_some]at hw;obtain⟨s1,s2⟩:=F4 us 0 h hw;simp only[Nat.zero_add]at s1;have hne:0<us.length:=by
       rw[<-gus.len];cases cs with
       | nil=>simp at hall
       | cons _ _=>simp
      have hb:h ad.block≠none:=by
       obtain⟨⟨u,hu⟩,_⟩:=s1 0 hne;have:=jc hu;rwa[add_block]at this
      have hsb:¬S ad.block:=by
       have:=(s1 0 hne).2.2;rwa[add_block]at this
      refine .step fun w hh=>?_
      refine JJ ho had hus hi hlus hone (.inl (fun h0=>hb (ye.1 h0).1)) hsb (fun j hj=>?_) ?_
      ·obtain⟨⟨u,hu⟩,hf,_⟩:=s1 j hj;exact⟨⟨u,jw hh.left hu⟩,MG hh.left (by rw[add_block];exact hb) hf⟩
      ·have hkept:Kept S (plus h L) (j7 (plus h L) ad 0 us) w (NQ w ad 0 us):=F3 us 0 _ _ hh (.inr ⟨fun h0=>hb (ye.1 h0).1,hsb⟩);rw[JO us 0 h (.inr hb)]at hkept;have hok:Ok S (j7 h ad 0 us) L:=⟨fun x hx=>(AI us 0 h x).2 (ha.apart x hx),fun x hx h0=>ha.inv x hx ((AI us 0 h x).1 h0)⟩;obtain⟨p1,p2⟩:=j8 hpr s2;exact⟨undef,L,_,.inr ⟨rfl,rfl⟩,hok,hkept,.refl _ _,p1,hc.go0 hk1 p2 (Rel.Am H o.dst (v:=.junk) trivial) hok hpr p1 (jQ _ _)⟩
    ·cases he
 ·cases he
end
end Go.Eng
namespace Go.Eng
open Go
variable {w:World}{b n:Nat}{T:TypeId}{cs:List Ex}
section
variable {P:Program}{S:Shared}{cfg:Cfg}{st:St}{env:List Value}{nums:List Nat}{a:Act}{L h:Heap}{G:List Ex}{o:Oper}
variable {Λ:Hand}{Q:Value -> Heap -> Prop}{Ks:List Kt}{k:List (Nat × Ex × Ex) -> St -> Option Tr}{pins pins' : List (Nat × Ex × Ex)}{tag:Nat}{ps:List (Nat × Addr × Value)}{K:Act -> Heap -> Heap -> Prop}{t t' : Tr}{e:Eff}{d:Nat}
theorem HU(ha:Ok S h L)(hh:Has w (plus h L))(ob:Obj){d:Nat} :
  Ok S (upd h w.heap.size ob) L/\Kept S (plus h L) (plus (upd h w.heap.size ob) L) w { w with drawn:=d,heap:=w.heap.push ob }/\h w.heap.size=none:=by
 have hf:=ye.1 hh.fresh;refine⟨⟨fun x hx=>?_,fun x hx h0=>?_⟩,?_,hf.1⟩
 ·have:x≠w.heap.size:=fun e=>hx (e▸hf.2)
  simp[upd,this,ha.apart x hx]
 ·unfold upd at h0;split at h0
  ·cases h0
  ·exact ha.inv x hx h0
 ·rw[Vr];exact GH hh ha.inv2 ob
theorem X5(ha:Ok S h L)(hh:Has w (plus h L))(ob:Obj){d:Nat} :
  Ok S h (upd L w.heap.size ob)/\Kept S (plus h L) (plus h (upd L w.heap.size ob)) w { w with drawn:=d,heap:=w.heap.push ob }/\L w.heap.size=none:=by
 have hf:=ye.1 hh.fresh;refine⟨⟨fun x hx=>?_,ha.inv⟩,?_,hf.2⟩
 ·by_cases e:x=w.heap.size
  ·rw[e];exact hf.1
  ·simp[upd,e]at hx;exact ha.apart x hx
 ·rw[Ti hf.1];exact GH hh ha.inv2 ob
theorem Rel.alloc(H:Rel st env nums a L){vs:List Value}(hb:L b=none)(g:zY env nums cs vs) :
  Rel { st with loc:=st.loc++[(T,cs.map some)] } env (nums++[b]) a (upd L b (.cells vs.toArray T)):=by
 have e0:env=env++[]:=by simp
 have gx:∀ {e:Ex} {u:Value},Good env nums e u->Good env (nums++[b]) e u:=fun h=>by have:=h.ext [] [b];rwa[<-e0]at this
 have gb:∀ {i:Nat} {g:List Ex} {v:SV},st.tmps[i]? = some ⟨g,v⟩->∀e∈g,∀c,Good env (nums++[b]) e (.bool c)->Good env nums e (.bool c):=by
  intro i g v h e he c hc;obtain⟨b',hb'⟩:=H.gd i g v h e he;have:=xr ((gx hb').uniq hc);subst this;exact hb'
 refine⟨H.n,by simp[H.m],H.sz,H.df,?_,?_,?_,?_,?_,fun e c h=>gx (H.kn e c h)⟩
 ·exact fun i g v h e he=>let⟨c,hc⟩:=H.gd i g v h e he;⟨c,gx hc⟩
 ·intro i g v h hg;have:=(H.vl i g v h fun e he=>gb h e he _ (hg e he)).ext [] [b];rwa[<-e0]at this
 ·exact fun i g v h ⟨e,he,hf⟩=>H.uv i g v h ⟨e,he,gb h e he _ hf⟩
 ·intro j T' cs' hj;rcases Nat.lt_or_ge j st.loc.length with hlt | hge
  ·rw[List.getElem?_append_left hlt]at hj;obtain⟨b',vs',k1,k2,k3,k4⟩:=H.bl j T' cs' hj;have hbb:b'≠b:=fun e=>by rw[e,hb]at k2;cases k2
   refine⟨b',vs',by rw[List.getElem?_append_left (H.m▸hlt)];exact k1,by simp[upd,hbb,k2],k3,fun o e he=>?_⟩;obtain⟨u,u1,u2⟩:=k4 o e he;exact⟨u,u1,gx u2⟩
  ·rw[List.getElem?_append_right hge]at hj;have hjj:j=st.loc.length:=by
    have:=(List.getElem?_eq_some_iff.1 hj).1;simp at this;omega
   subst hjj;simp at hj;obtain⟨rfl,rfl⟩:=hj;refine⟨b,vs,by rw[H.m];simp,by simp[upd],by simp[g.len],fun o e he=>?_⟩;rw[List.getElem?_map]at he;obtain⟨e',h1,h2⟩:=Option.map_eq_some_iff.1 he;cases h2
   obtain⟨u,u1,u2⟩:=g.get o e h1;exact⟨u,u1,gx u2⟩
 ·refine List.nodup_append.2 ⟨H.nd,by simp,?_⟩;intro x hx y hy;simp at hy;subst hy;intro e;subst e;obtain⟨j,hj,rfl⟩:=List.getElem_of_mem hx;have hlt:j<st.loc.length:=by rw[H.m];exact hj
  obtain⟨b',vs',k1,k2,_⟩:=H.bl j _ _ (List.getElem?_eq_getElem hlt);rw[List.getElem?_eq_getElem hj]at k1;cases k1
  rw[hb]at k2;cases k2
theorem X6(env:List Value)(nums:List Nat):∀ {cs:List Ex} {us:List Value},zY env nums cs us->cs.all (·.within 1000000 0)=true->yF env (EE cs)=us:=by
 have key:∀cs:List Ex,yF env (EE cs)=cs.map (Ex.ev env []):=by
  intro cs;induction cs with
  | nil=>rfl
  | cons c l ih=>
   simp only[EE];cases hr:EE l with
   | nil=>rw[hr]at ih;simp[yF]at ih ⊢;simpa using ih
   | cons p r=>
    obtain⟨n,dd⟩:=p;rw[hr]at ih;simp only;split
    ·rename_i hcd;subst hcd;simp only[yF,vF,vD,List.replicate_succ,vI]at ih ⊢;rw[ih]
    ·simp only[yF,vF,vD]at ih ⊢;rw[ih];simp
 intro cs us g hw;rw[key];exact g.nl hw
theorem Tj(env:List Value)(z:List (Nat×Cst)):yF env (z.map fun(n,c)=>(n,.cst c))=(jF z).map Cst.val:=by
 induction z with
 | nil=>rfl
 | cons p r ih=>
  obtain⟨n,c⟩:=p;simp only[yF,jF,vD,vF,List.map_append]at ih ⊢;rw[ih];simp[Ex.ev]
theorem Db{v:Value}{s:Sh}(hv:coerce s v=v):Good (env++[v]) nums (.var s env.length) v:=fun xs ys=>by
 simp[Ex.ev,hv]
theorem Vv{b off:Nat}:Good env (nums++[b]) (.loc nums.length off) (.pointer (some ⟨b,off,none⟩)):=fun xs ys=>by
 simp[Ex.ev]
theorem QH(H:Rel st env nums a L){cs:List (Nat×Ex)}(hk:xC st o.dst [] tag pins (.hall T cs) k=some t)(hw:t.wp P S Λ Q env h Ks)(hpr:yy env nums pins ps)
  (hc:qP P S Λ Q Ks env nums st.d k ps K)(ha:Ok S h L)(hx:∀w K',Has w (plus h L)->K' (.value (.pointer (some ⟨w.heap.size,0,none⟩))) { w with heap:=w.heap.push (.cells (yF env cs).toArray T) }->wpE P S (plus h L) w.heap.size (execOp a.eval o) w K')
  (hwb:True):OpW P S o a.eval L h (fun v L' h'=>yz (ps.map (·.2)) h'/\K (a.put o.dst v) L' h'):=by
 simp only[xC]at hk;obtain⟨t',hk1,rfl⟩:=Option.map_eq_some_iff.1 hk;refine .step fun w hh=>hx w _ hh ?_
 obtain⟨h1,h2,h3⟩:=HU ha hh (.cells (yF env cs).toArray T) (d:=w.drawn);obtain⟨p1,p2⟩:=j8 (hpr.kA _) (hw _ h3);have R:=(H.more [.pointer (some ⟨w.heap.size,0,none⟩)]).Am o.dst (v:=.x (.var .addr st.n)) (u:=.pointer (some ⟨w.heap.size,0,none⟩)) (by rw[H.n];exact Db rfl);exact⟨_,L,_,.inl rfl,h1,h2,.refl _ _,p1,hc.go1 _ hk1 p2 R h1 (hpr.kA _) p1 (jQ _ _)⟩
theorem QI(H:Rel st env nums a L){us:List Value}(g:zY env nums cs us)(hk:xC st o.dst [] tag pins (.lall T cs) k=some t)(hw:t.wp P S Λ Q env h Ks)(hpr:yy env nums pins ps)(hps:yz (ps.map (·.2)) h)
  (hc:qP P S Λ Q Ks env nums st.d k ps K)(ha:Ok S h L)(hx:∀w K',Has w (plus h L)->K' (.value (.pointer (some ⟨w.heap.size,0,none⟩))) { w with heap:=w.heap.push (.cells us.toArray T) }->wpE P S (plus h L) w.heap.size (execOp a.eval o) w K') :
  OpW P S o a.eval L h (fun v L' h'=>yz (ps.map (·.2)) h'/\K (a.put o.dst v) L' h'):=by
 simp only[xC]at hk;refine .step fun w hh=>hx w _ hh ?_
 obtain⟨h1,h2,h3⟩:=X5 ha hh (.cells us.toArray T) (d:=w.drawn);have R:=(H.alloc (T:=T) h3 g).Am o.dst (v:=.x (.loc st.loc.length 0)) (u:=.pointer (some ⟨w.heap.size,0,none⟩)) (by rw[H.m];exact Vv);refine⟨_,_,h,.inl rfl,h1,h2,?_,hps,?_⟩
 ·intro b x _ hL;have:b≠w.heap.size:=fun e=>by rw[e,h3]at hL;cases hL
  simp[upd,this,hL]
 ·refine hc _ pins t [] [w.heap.size] _ _ _ hk (by simpa using hw) (by simpa using R) h1 (by simpa using hpr.ext [] [w.heap.size]) hps (jQ _ _)
theorem Vw(hT:zJ P cfg.tab)(H:Rel st env nums a L)(ha:Ok S h L){ty:TypeId}(ho:o.op=.alloc ty)
  (he:zZ cfg st G o=some e)(hk:xC st o.dst [] tag pins e k=some t)(hw:t.wp P S Λ Q env h Ks)(hpr:yy env nums pins ps)(hps:yz (ps.map (·.2)) h)(hc:qP P S Λ Q Ks env nums st.d k ps K) :
  OpW P S o a.eval L h (fun v L' h'=>yz (ps.map (·.2)) h'/\K (a.put o.dst v) L' h'):=by
 simp only[zZ,ho]at he;split at he
 ·rename_i kk sz byt shs z tup hd;obtain⟨i,hi,_,_,hz⟩:=(zJ.get hT hd).i;obtain⟨zv,hz1,hz2⟩:=hz z rfl;split at he
  ·cases he
   refine QH H hk hw hpr hc ha (fun w K' hh hK=>JK ho hi hz1 ?_) trivial;rw[hz2,<-Tj env];exact hK
  ·cases he
   refine QI H (us:=(jF z).map Cst.val) BU hk hw hpr hps hc ha (fun w K' hh hK=>JK ho hi hz1 ?_);rw[hz2];exact hK
 ·cases he
theorem YS(H:Rel st env nums a L)(ha:Ok S h L)(hG:∀e∈G,Good env nums e (.bool true)){ty:TypeId}{x:Operand}(ho:o.op=.box ty x)
  (he:zZ cfg st G o=some e)(hk:xC st o.dst [] tag pins e k=some t)(hw:t.wp P S Λ Q env h Ks)(hpr:yy env nums pins ps)(hps:yz (ps.map (·.2)) h)(hc:qP P S Λ Q Ks env nums st.d k ps K) :
  OpW P S o a.eval L h (fun v L' h'=>yz (ps.map (·.2)) h'/\K (a.put o.dst v) L' h'):=by
 simp only[zZ,ho]at he;split at he
 ·rename_i cs hcs;obtain⟨w0,hw0,hw1⟩:=Option.bind_eq_some_iff.1 hcs;obtain⟨us,hus,gus⟩:=IS (qy H hG hw0).1 hw1;split at he
  ·split at he
   ·rename_i hall;cases he
    refine QH H hk hw hpr hc ha (fun w K' hh hK=>Ov ho ?_) trivial;rw[hus,<-X6 env nums gus hall];exact hK
   ·cases he
  ·cases he
   refine QI H (us:=us) gus hk hw hpr hps hc ha (fun w K' hh hK=>Ov ho ?_);rw[hus];exact hK
 ·cases he
theorem Tk{sz n:Nat}:∀(qs:List (Nat×Value)) (c:Array Value),(∀q∈qs,q.1<n)->Instr.fill (fun i=>((List.range n).map fun i=>(i*sz,sz))[i]?) c qs=Instr.fill (fun k=>some (k*sz,sz)) c qs:=by
 intro qs;induction qs with
 | nil=>intros;rfl
 | cons q r ih=>
  intro c hq;obtain⟨k,w⟩:=q;have hk:k<n:=hq (k,w) (by simp);simp only[List.getElem?_map]at ih ⊢;simp only[Instr.fill,List.getElem?_range hk,Option.map_some];split
  ·rfl
  ·exact ih _ fun q' hq'=>hq q' (List.mem_cons_of_mem _ hq')
theorem RX{z:List Value}:yl (n*z.length) z.toArray=((List.range n).flatMap fun _=>z).toArray:=by
 have key:(List.range (n*z.length)).map (fun i=>z.toArray[i%z.toArray.size]!)=(List.range n).flatMap fun _=>z:=by
  induction n with
  | zero=>simp
  | succ n ih=>
   rw[Nat.succ_mul,List.range_add,List.map_append,ih,List.range_succ,List.flatMap_append];congr 1;simp only[List.map_map,vF,vG,vJ];apply List.ext_getElem
   ·simp
   ·intro i h1 h2;simp only[List.getElem_map,List.getElem_range,Function.comp_apply,List.size_toArray];rw[Nat.mul_add_mod_self_right,Nat.mod_eq_of_lt h2];simp[h2]
 rw[<-key];simp[yl,<-List.toArray_range,List.map_toArray]
theorem Vx(hT:zJ P cfg.tab)(H:Rel st env nums a L)(ha:Ok S h L)(hG:∀e∈G,Good env nums e (.bool true)){ty:TypeId}{len:Nat}{parts:Array (Nat×Operand)}(ho:o.op=.buildSlice ty len parts)
  (he:zZ cfg st G o=some e)(hk:xC st o.dst [] tag pins e k=some t)(hw:t.wp P S Λ Q env h Ks)(hpr:yy env nums pins ps)(hc:qP P S Λ Q Ks env nums st.d k ps K) :
  OpW P S o a.eval L h (fun v L' h'=>yz (ps.map (·.2)) h'/\K (a.put o.dst v) L' h'):=by
 simp only[zZ,ho]at he;split at he
 ·rename_i e' sz byt shs z tup hd;split at he
  ·rename_i kk sz' byt' shs' z' tup' hd';split at he
   ·rename_i qs hqs;split at he
    ·rename_i cs hb;split at he
     ·rename_i hcond;cases he
      simp only[Bool.and_eq_true,decide_eq_true_eq,beq_iff_eq]at hcond;obtain⟨⟨⟨hall,hsm⟩,hzl⟩,hidx⟩:=hcond;have gp:=F2 H hG hqs;obtain⟨desc,hu,hkk⟩:=(zJ.get hT hd).u;simp only[jN]at hkk;subst hkk;obtain⟨ie,hie,hi2,_,hz⟩:=(zJ.get hT hd').i;obtain⟨zv,hz1,hz2⟩:=hz z' rfl;simp only at hi2;have gz:zY env nums ((List.range len).flatMap fun _=>BR z') ((List.range len).flatMap fun _=>(jF z').map Cst.val):=by
       generalize List.range len=rs;induction rs with
       | nil=>trivial
       | cons _ _ ih=>simp only[vF];exact BU.append ih
      obtain⟨us,hf,gu⟩:=HS (env:=env) (nums:=nums) (place:=fun i=>((List.range len).map fun i=>(i*sz',sz'))[i]?) (fun i=>rfl) qs _ _ _ _ gp hb gz;have hzlen:((jF z').map Cst.val).length=sz':=by rw[<-(BU (env:=env) (nums:=nums) (z:=z')).len];exact hzl
      have hmk:yl (len*ie.size) zv.cells=((List.range len).flatMap fun _=>(jF z').map Cst.val).toArray:=by
       rw[hz2,hi2,<-hzlen];exact RX
      simp only[xC]at hk;obtain⟨t',hk1,rfl⟩:=Option.map_eq_some_iff.1 hk;refine .step fun w hh=>?_
      refine JL (us':=us.toArray) ho hu hie hz1 (by rw[hi2];exact hsm) ?_ ?_
      ·rw[hmk,hi2,<-Tk (n:=len)]
       ·exact hf
       ·intro q hq;have hidx:=List.all_eq_true.1 hidx;obtain⟨p,hp,rfl⟩:=List.mem_map.1 hq;obtain⟨y,hy,hy2⟩:=F1 hqs p hp;obtain⟨cs',_,rfl⟩:=Option.map_eq_some_iff.1 hy2;simpa using hidx _ hy
      ·obtain⟨h1,h2,h3⟩:=HU ha hh (.cells us.toArray e') (d:=w.drawn);have hw':=hw _ h3;rw[gu.nl hall]at hw';obtain⟨p1,p2⟩:=j8 (hpr.kA _) hw';have R:=(H.more [.slice (some ⟨w.heap.size,0,none⟩) len len]).Am o.dst (v:=.x (.var .slice st.n)) (u:=.slice (some ⟨w.heap.size,0,none⟩) len len) (by rw[H.n];exact Db rfl);exact⟨_,L,_,.inl rfl,h1,h2,.refl _ _,p1,hc.go1 _ hk1 p2 R h1 (hpr.kA _) p1 (jQ _ _)⟩
     ·cases he
    ·cases he
   ·cases he
  ·cases he
 ·cases he
theorem X7(hT:zJ P cfg.tab)(H:Rel st env nums a L)(ha:Ok S h L)(hG:∀e∈G,Good env nums e (.bool true)){ty:TypeId}{l c:Operand}(ho:o.op=.makeSlice ty l c)
  (he:zZ cfg st G o=some e)(hk:xC st o.dst [] tag pins e k=some t)(hw:t.wp P S Λ Q env h Ks)(hpr:yy env nums pins ps)(hc:qP P S Λ Q Ks env nums st.d k ps K) :
  OpW P S o a.eval L h (fun v L' h'=>yz (ps.map (·.2)) h'/\K (a.put o.dst v) L' h'):=by
 simp only[zZ,ho]at he;split at he
 ·rename_i e' sz byt shs z tup el ec hd hl hc';split at he
  ·rename_i kk sz' byt' shs' z' tup' hd';split at he
   ·rename_i hcond;cases he
    simp only[Bool.and_eq_true]at hcond;obtain⟨⟨⟨hl1,hc1⟩,hl2⟩,hc2⟩:=hcond;have gl:=x9 H hG hl;have gc:=x9 H hG hc';obtain⟨kl,hkl⟩:=Option.isSome_iff_exists.1 hl1;obtain⟨kc,hkc⟩:=Option.isSome_iff_exists.1 hc1;obtain⟨nl,hnl⟩:=gl.int hkl;obtain⟨nc,hnc⟩:=gc.int hkc;obtain⟨desc,hu,hkk⟩:=(zJ.get hT hd).u;simp only[jN]at hkk;subst hkk;obtain⟨ie,hie,hi2,hby,hz⟩:=(zJ.get hT hd').i;obtain⟨zv,hz1,hz2⟩:=hz z' rfl;simp only at hi2 hby;simp only[xC]at hk;obtain⟨t',hk1,rfl⟩:=Option.map_eq_some_iff.1 hk;simp only[Tr.wp,Fx]at hw;rw[gl.nl hl2,gc.nl hc2,hnl,hnc]at hw;simp only[toInt]at hw;obtain⟨w1,w2,w3,hw⟩:=hw;refine .step fun w hh=>?_
    refine Ly ho hnl hnc hu hie hz1 w1 w2 (by rw[hby];exact w3) ?_;rw[hz2,hi2];obtain⟨h1,h2,h3⟩:=HU ha hh (.cells (yl ((IntKind.i64.wrap nc).toNat*sz') ((jF z').map Cst.val).toArray) e') (d:=w.drawn);have hw':=hw _ h3;obtain⟨p1,p2⟩:=j8 (hpr.kA _) hw';have R:=(H.more [.slice (some ⟨w.heap.size,0,none⟩) (IntKind.i64.wrap nl).toNat (IntKind.i64.wrap nc).toNat]).Am o.dst (v:=.x (.var .slice st.n)) (u:=.slice (some ⟨w.heap.size,0,none⟩) (IntKind.i64.wrap nl).toNat (IntKind.i64.wrap nc).toNat) (by rw[H.n];exact Db rfl);exact⟨_,L,_,.inl rfl,h1,h2,.refl _ _,p1,hc.go1 _ hk1 p2 R h1 (hpr.kA _) p1 (jQ _ _)⟩
   ·cases he
  ·cases he
 ·cases he
end
end Go.Eng
namespace Go.Eng
open Go
variable {w:World}{u:Value}{as:Array Operand}{ats:Array TypeId}{vs:List Value}{tup:Bool}{res:List (Bool×List Sh)}
section
variable {P:Program}{S:Shared}{cfg:Cfg}{st:St}{env:List Value}{nums:List Nat}{a:Act}{L h:Heap}{G:List Ex}{o:Oper}
variable {Λ:Hand}{Q:Value -> Heap -> Prop}{Ks:List Kt}{k:List (Nat × Ex × Ex) -> St -> Option Tr}{pins pins' : List (Nat × Ex × Ex)}{tag:Nat}{ps:List (Nat × Addr × Value)}{K:Act -> Heap -> Heap -> Prop}{t t' : Tr}{e:Eff}{d:Nat}
theorem LF{h:Heap}{x:Option Addr}{ys:List Value}(H:qc h x ys):(x=none->ys=[])/\∀b,x=some b->∀(j:Nat) u,ys[j]? = some u->zj h (b.add j)=some u:=by
 unfold qc at H;cases x with
 | none=>exact⟨fun _=>H,fun b hb=>by cases hb⟩
 | some b=>exact⟨(fun h=>by cases h),fun b' hb j u hj=>(by cases hb;simpa using AG H j u hj)⟩
theorem HV(hh:Has w (plus h L)){ad:Addr}(hc:zj h ad=some u){B:Nat}:(plus h L ad.block≠none\/B<=ad.block)/\w.cell? ad=some u:=
 ⟨.inl fun h0=>jc hc (ye.1 h0).1,jw hh.left hc⟩
theorem Tl(hT:zJ P cfg.tab)(H:Rel st env nums a L)(ha:Ok S h L)(hG:∀e∈G,Good env nums e (.bool true))(ho:o.op=.call { callee:=.builtin .append,args:=as,argTypes:=ats })
  (he:zZ cfg st G o=some e)(hk:xC st o.dst [] tag pins e k=some t)(hw:t.wp P S Λ Q env h Ks)(hpr:yy env nums pins ps)(hc:qP P S Λ Q Ks env nums st.d k ps K) :
  OpW P S o a.eval L h (fun v L' h'=>yz (ps.map (·.2)) h'/\K (a.put o.dst v) L' h'):=by
 simp only[zZ,ho]at he;split at he
 case h_5 s x hbb hex=>
  split at he
  ·rename_i e1 _ _ _ _ _ e2 _ _ _ _ _ ht0 ht1;split at he
   ·rename_i kk sz byt shs z tup hd;split at he
    ·rename_i hcond;cases he
     simp only[Bool.and_eq_true,decide_eq_true_eq]at hcond;obtain⟨⟨⟨⟨hs,hx⟩,hs2⟩,hx2⟩,hby0⟩:=hcond;have gx:=CZ H hG hex;obtain⟨x1,x2,hargs⟩:∃x1 x2,as=#[x1,x2]:=by
      have:=(kL hex).1;obtain⟨l⟩:=as
      match l,this with
      | [x1,x2],_=>exact⟨x1,x2,rfl⟩
     subst hargs;simp only[vD,vE]at gx;obtain⟨g1,g2,_⟩:=gx;obtain⟨sa,sl,sc,hsv⟩:=g1.slice hs;obtain⟨xa,xl,xc,hxv⟩:=g2.slice hx;obtain⟨ty0,hat0,hd0⟩:=Option.bind_eq_some_iff.1 ht0;obtain⟨ty1,hat1,hd1⟩:=Option.bind_eq_some_iff.1 ht1;obtain⟨desc0,hu0,hk0⟩:=(zJ.get hT hd0).u;obtain⟨desc1,hu1,hk1⟩:=(zJ.get hT hd1).u;simp only[jN]at hk0 hk1;subst hk0 hk1;obtain⟨ie,hie,hi2,hby,hz⟩:=(zJ.get hT hd).i;obtain⟨zv,hz1,hz2⟩:=hz z rfl;simp only at hi2 hby;simp only[xC]at hk;obtain⟨t',hkk,rfl⟩:=Option.map_eq_some_iff.1 hk;simp only[Tr.wp]at hw;rw[g1.nl hs2,g2.nl hx2,hsv,hxv]at hw;obtain⟨ys,y1,y2,y3,y4,y5⟩:=hw;simp only[slA,slL,slC]at y1 y2 y4 y5;obtain⟨yn,yc⟩:=LF y2;refine .step fun w hh=>?_
     have fin:∀(v:Value) (h':Heap) (w':World),coerce .slice v=v->Ok S h' L->Kept S (plus h L) (plus h' L) w w'->(j0 pins t').wp P S Λ Q (env++[v]) h' Ks ->
       ∃u L2 h2,(Next.value v=.value u\/(Next.value v=.skip/\u=undef))/\Ok S h2 L2/\Kept S (plus h L) (plus h2 L2) w w'/\CU (kG o a.eval) L L2/\yz (ps.map (·.2)) h2/\K (a.put o.dst u) L2 h2:=by
      intro v h' w' hv h1 h2 h3;obtain⟨p1,p2⟩:=j8 (hpr.kA _) h3;have R:=(H.more [v]).Am o.dst (v:=.x (.var .slice st.n)) (u:=v) (by rw[H.n];exact Db hv);exact⟨v,L,h',.inl rfl,h1,h2,.refl _ _,p1,hc.go1 _ hkk p2 R h1 (hpr.kA _) p1 (jQ _ _)⟩
     refine Qj (ys:=ys) ho rfl hsv hxv hat0 hat1 hu0 hu1 hie hz1 (by rw[hby];exact hby0) (by rw[hi2];exact y1.symm) yn (fun b hb j u hj=>HV hh (yc b hb j u hj)) (fun hroom=>?_) (fun hgrow=>?_)
     ·have y4:=y4 hroom;cases sa with
      | none=>exact fin _ h w rfl ha (.refl hh) y4
      | some b=>
       simp only at y4;rw[<-hi2]at y4;obtain⟨s1,s2⟩:=F4 ys 0 h y4;simp only[Nat.zero_add]at s1;have hbl:ys=[]\/(h b.block≠none/\¬S b.block):=by
        cases ys with
        | nil=>exact .inl rfl
        | cons y r=>
         obtain⟨⟨u,hu⟩,_,hs⟩:=s1 0 (by simp);rw[add_block,add_block]at hs;have:=jc hu;rw[add_block,add_block]at this;exact .inr ⟨this,hs⟩
       refine⟨y3,hbl.imp id fun x=>⟨.inl fun h0=>x.1 (ye.1 h0).1,x.2⟩,fun j hj=>?_,?_⟩
       ·obtain⟨⟨u,hu⟩,hf,_⟩:=s1 j hj;exact⟨⟨u,jw hh.left hu⟩,MG hh.left (jc hu) hf⟩
       ·have hbl':ys=[]\/(plus h L (b.add (sl*ie.size)).block≠none/\¬S (b.add (sl*ie.size)).block):=by
         rw[add_block];exact hbl.imp id fun x=>⟨fun h0=>x.1 (ye.1 h0).1,x.2⟩
        have hkept:Kept S (plus h L) (j7 (plus h L) (b.add (sl*ie.size)) 0 ys) w (NQ w (b.add (sl*ie.size)) 0 ys):=F3 ys 0 _ _ hh hbl';rw[JO ys 0 h (by rw[add_block];exact hbl.imp id fun x=>x.1)]at hkept;have hok:Ok S (j7 h (b.add (sl*ie.size)) 0 ys) L:=⟨fun x hx=>(AI ys 0 h x).2 (ha.apart x hx),fun x hx h0=>ha.inv x hx ((AI ys 0 h x).1 h0)⟩;exact fin _ _ _ rfl hok hkept s2
     ·obtain⟨g0,os,g3,g4,g5⟩:=y5 hgrow;obtain⟨on,oc⟩:=LF g4;refine⟨by rw[hby];exact g0,os,by rw[hi2];exact g3.symm,on,fun b hb j u hj=>HV hh (oc b hb j u hj),fun nc dd hnc=>?_⟩;obtain⟨h1,h2,h3⟩:=HU ha hh (.cells (os.toArray++ys.toArray++Builtin.zeroCells zv.cells (nc-(sl+xl))) e1) (d:=dd);rw[hz2]at h1 h2 ⊢;exact fin _ _ _ rfl h1 h2 (g5 nc _ hnc h3)
    ·cases he
   ·cases he
  ·cases he
 all_goals first | cases he | skip
 all_goals (rename_i hh _;cases hh)
theorem X8(ha:Ok S h L)(hh:Has w (plus h L)){b:Nat}{cs:Array Value}{T:TypeId}(hb:h b=some (.cells cs T))(hs:¬S b) :
  Ok S (upd h b (.cells cs T (cs.size,cs.size+1))) L/\Kept S (plus h L) (plus (upd h b (.cells cs T (cs.size,cs.size+1))) L) w (w.freeze { block:=b,off:=cs.size } 1):=by
 have hw:=hh.left _ _ hb;have f1:∀x,x≠b->(w.freeze { block:=b,off:=cs.size } 1).heap[x]? = w.heap[x]? := fun x hx=>by
  unfold World.freeze;rw[if_neg (by decide)];simp[Array.getElem?_modify,Ne.symm hx]
 have f2:(w.freeze { block:=b,off:=cs.size } 1).heap[b]? = some (.cells cs T (cs.size,cs.size+1)):=by
  unfold World.freeze;rw[if_neg (by decide)];simp[Array.getElem?_modify,hw]
 have f3:(w.freeze { block:=b,off:=cs.size } 1).os=w.os/\(w.freeze { block:=b,off:=cs.size } 1).tape=w.tape/\(w.freeze { block:=b,off:=cs.size } 1).output=w.output:=by
  unfold World.freeze;rw[if_neg (by decide)];exact⟨rfl,rfl,rfl⟩
 have hne:∀x,x≠b->upd h b (.cells cs T (cs.size,cs.size+1)) x=h x:=fun x hx=>by unfold upd;rw[if_neg hx]
 have hself:upd h b (.cells cs T (cs.size,cs.size+1)) b=some (.cells cs T (cs.size,cs.size+1)):=by unfold upd;rw[if_pos rfl]
 have hno:∀x,upd h b (.cells cs T (cs.size,cs.size+1)) x=none<->h x=none:=fun x=>by
  by_cases hx:x=b
  ·subst hx;rw[hself,hb];simp
  ·rw[hne x hx]
 refine⟨⟨fun x hx=>(hno x).2 (ha.apart x hx),fun x hx h0=>ha.inv x hx ((hno x).1 h0)⟩,⟨f3.1,f3.2.1,f3.2.2,by rw[I7];exact Nat.le_refl _,?_,?_,?_⟩⟩
 ·intro x hlt hx;obtain⟨x1,x2⟩:=ye.1 hx;have hxb:x≠b:=fun e=>by rw[e,hb]at x1;cases x1
  refine⟨?_,ye.2 ⟨(hno x).2 x1,x2⟩⟩;exact f1 x hxb
 ·intro x ob hx;by_cases hxb:x=b
  ·subst hxb;have:plus (upd h x (.cells cs T (cs.size,cs.size+1))) L x=some (.cells cs T (cs.size,cs.size+1)):=by unfold plus;rw[hself]
   rw[this]at hx;cases hx
   exact f2
  ·rw[f1 x hxb];refine hh x ob ?_;unfold plus at hx ⊢;rw[hne x hxb]at hx;exact hx
 ·intro x hx;have hxb:x≠b:=fun e=>hs (e▸hx)
  unfold plus;rw[hne x hxb]
theorem XA(hT:zJ P cfg.tab)(H:Rel st env nums a L)(ha:Ok S h L)(hG:∀e∈G,Good env nums e (.bool true)){src dst:TypeId}{x:Operand}(ho:o.op=.convert src dst x)(hp:e.GI=false)
  (he:zZ cfg st G o=some e)(hk:xC st o.dst [] tag pins e k=some t)(hw:t.wp P S Λ Q env h Ks)(hpr:yy env nums pins ps)(hps:yz (ps.map (·.2)) h)(hc:qP P S Λ Q Ks env nums st.d k ps K) :
  OpW P S o a.eval L h (fun v L' h'=>yz (ps.map (·.2)) h'/\K (a.put o.dst v) L' h'):=by
 simp only[zZ,ho]at he;split at he
 ·obtain⟨_,_,rfl⟩:=Option.map_eq_some_iff.1 he;cases hp
 ·rename_i p sz byt shs z tup e' sz' byt' shs' z' tup' hx hd hs;split at he
  ·rename_i sz2 byt2 shs2 z2 tup2 hd2;split at he
   ·rename_i hcond;cases he
    simp only[Bool.and_eq_true,decide_eq_true_eq]at hcond;have g:=x9 H hG hx;obtain⟨sa,sl,sc,hsv⟩:=g.slice hcond.1;obtain⟨desc,hu,hkk⟩:=(zJ.get hT hd).u;obtain⟨desc1,hu1,hkk1⟩:=(zJ.get hT hs).u;obtain⟨desc2,hu2,hkk2⟩:=(zJ.get hT hd2).u;simp only[jN]at hkk hkk1 hkk2;subst hkk hkk1 hkk2;simp only[xC]at hk;obtain⟨t',hk1,rfl⟩:=Option.map_eq_some_iff.1 hk;simp only[Tr.wp]at hw;rw[g.nl hcond.2,hsv]at hw;obtain⟨ys,y1,y2,hw'⟩:=hw;simp only[slA,slL]at y1 y2;obtain⟨yn,yc⟩:=LF y2;refine .step fun w hh=>?_
    refine RR ho hsv hu1 hu hu2 y1 (fun hn=>by simpa using yn hn) (fun b hb j u hj=>HV hh (yc b hb j u hj)) ?_;obtain⟨p1,p2⟩:=j8 (hpr.kA _) hw';have R:=(H.more [.string (strOf ys)]).Am o.dst (v:=.x (.var .str st.n)) (u:=.string (strOf ys)) (by rw[H.n];exact Db rfl);exact⟨_,L,h,.inl rfl,ha,.refl hh,.refl _ _,p1,hc.go1 _ hk1 p2 R ha (hpr.kA _) p1 (jQ _ _)⟩
   ·cases he
  ·cases he
 ·rename_i p sz byt shs z tup e' ds hx hd hs;split at he
  ·rename_i sz2 byt2 shs2 z2 tup2 hd2;split at he
   ·rename_i hcond;cases he
    simp only[Bool.and_eq_true,decide_eq_true_eq]at hcond;obtain⟨⟨rfl,hc1⟩,hc2⟩:=hcond;have g:=x9 H hG hx;obtain⟨sa,sl,sc,hsv⟩:=g.slice hc1;obtain⟨desc,hu,hkk⟩:=(zJ.get hT hd).u;obtain⟨desc2,hu2,hkk2⟩:=(zJ.get hT hd2).u;simp only[jN]at hkk hkk2;subst hkk hkk2;simp only[xC]at hk;obtain⟨t',hk1,rfl⟩:=Option.map_eq_some_iff.1 hk;simp only[Tr.wp]at hw;rw[g.nl hc2]at hw;obtain⟨b,l,c,cs,T,y1,y2,y3,hw'⟩:=hw;refine .step fun w hh=>?_
    obtain⟨h1,h2⟩:=X8 ha hh y2 y3;refine SX ho y1 hu hu2 (hh.left _ _ y2) ?_;obtain⟨p1,p2⟩:=j8 hpr hw';have R:=H.Am o.dst (v:=.x p) (u:=a.eval x) g;rw[y1]at R;exact⟨_,L,_,.inl rfl,h1,h2,.refl _ _,p1,hc.go0 hk1 p2 R h1 hpr p1 (jQ _ _)⟩
   ·cases he
  ·cases he
 ·cases he
theorem YT{v:SV}(g:xU env nums v u)(hn:v.HL=true):v.den env=u:=by
 cases v with
 | junk=>cases hn
 | tup cs=>cases hn
 | x e=>exact Good.nl g hn
 | agg cs=>obtain⟨us,rfl,h2⟩:=g;simp only[SV.den];rw[h2.nl hn]
theorem LG(H:Rel st env nums a L)(hG:∀e∈G,Good env nums e (.bool true)):∀ {l:List Operand} {vs:List SV},allM (st.get G) l=some vs->vs.all SV.HL=true->vs.map (SV.den env)=l.map a.eval
 | [],vs,h,_=>by simp only[allM]at h;cases h;rfl
 | x::l,vs,h,hn=>by
  simp only[allM]at h;split at h
  ·rename_i b r hb hr;cases h
   simp only[List.all_cons,Bool.and_eq_true]at hn;simp[YT (qy H hG hb).1 hn.1,LG H hG hr hn.2]
  ·cases h
theorem MH(e:Ex)(hl:e.G3=true)(hw:e.within 1000000 0=true):xS (e.ev env nums)=((G1 e).map (SV.den env)).toArray:=by
 induction e with
 | nl=>rfl
 | cs x r _ ih=>
  simp only[Ex.G3]at hl;simp only[Ex.within,Bool.and_eq_true]at hw;have e1:xS ((Ex.cs x r).ev env nums)=#[x.ev env nums]++xS (r.ev env nums):=rfl;rw[e1,ih hl hw.2,IQ env 1000000 nums [] x hw.1];simp[G1,SV.den]
 | _=>cases hl
def IU(env:List Value)(c:Bool×List Ex):Value:=if c.1 then Value.agg (c.2.map (Ex.ev env [])).toArray else match c.2 with | [e]=>e.ev env [] | _=>undef
theorem IA:∀ {s r:List Sh} {vs:List Value},jv (s++r) vs->∃v1 v2,vs=v1++v2/\jv s v1/\jv r v2
 | [],_,vs,h=>⟨[],vs,rfl,trivial,h⟩
 | _::_,_,[],h=>h.elim
 | x::s,r,v::vs,h=>by
  obtain⟨v1,v2,rfl,h2,h3⟩:=IA h.2;exact⟨v::v1,v2,rfl,⟨h.1,h2⟩,h3⟩
theorem RY{shs:List Sh}(pre more:List Value)(h:jv shs vs):(zi pre.length shs).map (Ex.ev (pre++vs++more) [])=vs:=by
 have:=qQ pre [] h;exact((this.ext more []).map:_)
theorem Dc:∀ {res:List (Bool×List Sh)} {vs:List Value} (env pre:List Value) (nums:List Nat),jv (zn res) vs->res.all (fun r=>r.1||r.2.length==1)=true ->
  Ad (env++vs) nums (zk env.length res) ((zk pre.length res).map (IU (pre++vs)))
 | [],[],_,_,_,_,_=>trivial
 | [],_::_,_,_,_,h,_=>h.elim
 | (b,s)::r,vs,env,pre,nums,h,hr=>by
  simp only[zn,vF]at h;obtain⟨v1,v2,rfl,h1,h2⟩:=IA h;simp only[List.all_cons,Bool.and_eq_true]at hr;have ih:=Dc (env++v1) (pre++v1) nums h2 hr.2;rw[List.length_append,List.length_append,List.append_assoc,List.append_assoc,k8 h1]at ih;simp only[zk,vD];refine⟨?_,ih⟩;have g1:zY (env++(v1++v2)) nums (zi env.length s) v1:=by
   have:=(qQ env nums h1).ext v2 [];simpa using this
  have n1:=RY pre v2 h1;rw[List.append_assoc]at n1;unfold j6 IU;cases b with
  | true=>simp only[if_true];exact⟨v1,by rw[n1],g1⟩
  | false=>
   simp only[vK,if_false];simp only[Bool.false_or,beq_iff_eq]at hr
   match s,hr.1 with
   | [x],_=>
    simp only[zi,vD,vE]at n1 g1 ⊢
    match v1,n1,g1 with
    | [v],n1,g1=>exact⟨_,rfl,by rw[(List.cons.inj n1).1];exact g1.1⟩
theorem OE(env:List Value)(nums:List Nat)(h:jv (zn res) vs)(hr:res.all (fun r=>r.1||r.2.length==1)=true) :
  xU (env++vs) nums (zz env.length tup res) (zL tup res vs):=by
 have g:=Dc env [] nums h hr;simp only[List.length_nil,vH]at g;unfold zL zz;cases tup with
 | true=>exact⟨_,rfl,g⟩
 | false=>
  simp only[vK,if_false]
  match res,g with
  | [],_=>trivial
  | [(true,s)],g=>
   simp only[zk,vD,vE]at g ⊢;obtain⟨⟨us,h1,h2⟩,_⟩:=g;simp only[IU,if_true]at h1;exact⟨us,h1,h2⟩
  | [(false,s)],g=>
   simp only[zk,vD,vE]at g ⊢;obtain⟨⟨e,h1,h2⟩,_⟩:=g;simp only at h1
   match s,h1 with
   | [x],h1=>
    simp only[zi]at h1 h2 ⊢;cases h1
    exact h2
  | (b1,s1)::(b2,s2)::r,_=>cases b1 <;> simp[zk,xU]
theorem MI{ty:TypeId}(h:NN cfg ty=some (tup,res)):res.all (fun r=>r.1||r.2.length==1)=true:=by
 unfold NN at h;split at h
 ·cases h
 ·split at h
  ·split at h
   ·rename_i hc;cases h
    simpa using hc
   ·cases h
  ·split at h
   ·split at h
    ·rename_i hc;cases h;exact hc
    ·cases h
   ·cases h
theorem XB(H:Rel st env nums a L)(ha:Ok S h L)(hG:∀e∈G,Good env nums e (.bool true)){f:Operand}(ho:o.op=.call { callee:=.value f,args:=as,argTypes:=ats })
  (he:zZ cfg st G o=some e)(hk:xC st o.dst [] tag pins e k=some t)(hw:t.wp P S Λ Q env h Ks)(hpr:yy env nums pins ps)(hc:qP P S Λ Q Ks env nums st.d k ps K) :
  OpW P S o a.eval L h (fun v L' h'=>yz (ps.map (·.2)) h'/\K (a.put o.dst v) L' h'):=by
 simp only[zZ,ho]at he;split at he
 ·rename_i fe vs tup res hf has hres;have gf:=x9 H hG hf;have hall:=MI hres;split at he
  ·cases he
  ·rename_i hnl;simp only[Bool.not_eq_true',Bool.not_eq_false]at hnl;have hargs:=LG H hG has hnl;have go:∀(g:FuncId) (first cap:Array Value) (t':Tr),a.eval f=.func (.func g) first cap->k pins ({ st with n:=st.n+(zn res).length }.put o.dst ⟨[],zz st.n tup res⟩)=some t' ->
     z4 P S g (first++(vs.map (SV.den env)).toArray++cap) tup res h (fun us h'=>(j0 pins t').wp P S Λ Q (env++us) h' Ks) ->
     OpW P S o a.eval L h (fun v L' h'=>yz (ps.map (·.2)) h'/\K (a.put o.dst v) L' h'):=by
    intro g first cap t' hfv hk1 hcall
    have e1:first++(vs.map (SV.den env)).toArray++cap=first++as.map a.eval++cap:=by rw[hargs];simp[<-List.map_toArray]
    have fin:∀v h',(zy (zn res) fun us=>v=zL tup res us/\(j0 pins t').wp P S Λ Q (env++us) h' Ks)->Ok S h' L->yz (ps.map (·.2)) h'/\K (a.put o.dst v) L h':=by
     intro v h' hv hok;obtain⟨us,h1,rfl,h3⟩:=(ky _ _).1 hv;obtain⟨p1,p2⟩:=j8 (hpr.kA _) h3;have hl:=k8 h1;have R:=(H.more us).Am o.dst (v:=zz st.n tup res) (u:=zL tup res us) (by rw[H.n];exact OE env nums h1 hall);rw[hl]at R;exact⟨p1,hc.go1 us hk1 p2 R hok (hpr.kA _) p1 (jQ _ _)⟩
    rw[e1]at hcall;rcases hcall with hE | hD
    ·exact .call g _ _ (fun w=>SY ho hfv hE.1 w) hE fin
    ·refine .step fun w hw=>?_
     rw[Qk ho hfv];refine kX _ (IL (fun b hb hn=>hb (ye.1 hn).1) _ (hD w hw.left)) ?_;rintro n w' ⟨v,h',rfl,hi,hk,hv⟩;obtain⟨k1,k2⟩:=hk.frame hw ha.apart;exact⟨v,L,h',.inl rfl,⟨k2,hi⟩,k1,.refl _ _,fin v h' hv ⟨k2,hi⟩⟩
   split at he
   ·rename_i g x y;split at he
    ·rename_i hcond;cases he
     simp only[Bool.and_eq_true]at hcond;obtain⟨⟨⟨hx,hy⟩,lx⟩,ly⟩:=hcond;simp only[xC]at hk;obtain⟨t',hk1,rfl⟩:=Option.map_eq_some_iff.1 hk;refine go g (xS (x.ev env nums)) (xS (y.ev env nums)) t' ?_ hk1 ?_
     ·rw[<-gf.at];rfl
     ·rw[MH x lx hx,MH y ly hy];simp only[Tr.wp,List.map_append]at hw;simpa using hw
    ·cases he
   ·split at he
    ·rename_i hcond;cases he
     simp only[Bool.and_eq_true]at hcond;simp only[xC]at hk;obtain⟨t',hk1,rfl⟩:=Option.map_eq_some_iff.1 hk;obtain⟨g,first,cap,h1,h2⟩:=hw;refine go g first cap t' ?_ hk1 h2
     rw[<-h1,gf.nl hcond.2]
    ·cases he
 ·cases he
theorem Tm(H:Rel st env nums a L)(ha:Ok S h L)(hG:∀e∈G,Good env nums e (.bool true)){r:Operand}{name:String}(ho:o.op=.call { callee:=.invoke r name,args:=as,argTypes:=ats })
  (he:zZ cfg st G o=some e)(hk:xC st o.dst [] tag pins e k=some t)(hw:t.wp P S Λ Q env h Ks)(hpr:yy env nums pins ps)(hc:qP P S Λ Q Ks env nums st.d k ps K) :
  OpW P S o a.eval L h (fun v L' h'=>yz (ps.map (·.2)) h'/\K (a.put o.dst v) L' h'):=by
 simp only[zZ,ho]at he;split at he
 ·rename_i fe vs tup res hf has hres;have gf:=x9 H hG hf;have hall:=MI hres;split at he
  ·rename_i hcond;simp only[Bool.and_eq_true]at hcond;obtain⟨⟨hnl,hsh⟩,hwi⟩:=hcond;have hargs:=LG H hG has hnl;cases he
   simp only[xC]at hk;obtain⟨t',hk1,rfl⟩:=Option.map_eq_some_iff.1 hk;obtain⟨ty,v,g,rv,h1,h2,hcall⟩:=hw;have hr:a.eval r=.iface ty v:=by rw[<-h1,gf.nl hwi]
   have e1:#[rv]++(vs.map (SV.den env)).toArray=#[rv]++as.map a.eval:=by rw[hargs];simp[<-List.map_toArray]
   rw[e1]at hcall;have fin:∀v h',(zy (zn res) fun us=>v=zL tup res us/\(j0 pins t').wp P S Λ Q (env++us) h' Ks)->Ok S h' L->yz (ps.map (·.2)) h'/\K (a.put o.dst v) L h':=by
    intro v h' hv hok;obtain⟨us,h1,rfl,h3⟩:=(ky _ _).1 hv;obtain⟨p1,p2⟩:=j8 (hpr.kA _) h3;have hl:=k8 h1;have R:=(H.more us).Am o.dst (v:=zz st.n tup res) (u:=zL tup res us) (by rw[H.n];exact OE env nums h1 hall);rw[hl]at R;exact⟨p1,hc.go1 us hk1 p2 R hok (hpr.kA _) p1 (jQ _ _)⟩
   rcases hcall with hE | hD
   ·refine .call g _ _ (fun w=>?_) hE fin;rw[I9 ho hr];show(Sem.program _).runT P w #[]=_;show(method (P.types.size+Made.depth) ty v name >>= fun x=>callFunc x.1 (#[x.2]++as.map a.eval)).runT P w #[]=_;rw[Qf h2];exact hE.1 _ _
   ·refine .step fun w hw=>?_
    rw[I9 ho hr];show wpE P S (plus h L) w.heap.size (method (P.types.size+Made.depth) ty v name >>= fun x=>callFunc x.1 (#[x.2]++as.map a.eval)) w _;refine RI h2 ?_;refine kX _ (IL (fun b hb hn=>hb (ye.1 hn).1) _ (hD w hw.left)) ?_;rintro n w' ⟨v,h',rfl,hi,hk,hv⟩;obtain⟨k1,k2⟩:=hk.frame hw ha.apart;exact⟨v,L,h',.inl rfl,⟨k2,hi⟩,k1,.refl _ _,fin v h' hv ⟨k2,hi⟩⟩
  ·cases he
 ·cases he
end
end Go.Eng
namespace Go.Eng
open Go
variable {need:List Ex}
section
variable {P:Program}{S:Shared}{cfg:Cfg}{ops:Array Oper}{st:St}{env:List Value}{nums:List Nat}{a:Act}{L h:Heap}{G:List Ex}{o:Oper}
variable {Λ:Hand}{Q:Value -> Heap -> Prop}{Ks:List Kt}{k:List (Nat × Ex × Ex) -> St -> Option Tr}{pins pins' : List (Nat × Ex × Ex)}{tag:Nat}{ps:List (Nat × Addr × Value)}{K:Act -> Heap -> Heap -> Prop}{t t' : Tr}{e:Eff}{d:Nat}
theorem Qr(H:Rel st env nums a L){e:Ex}(hw:e.within st.n st.loc.length=true):Good env nums e (e.ev env nums):=
 fun xs ys=>G8 xs ys e hw (by rw[H.n];exact Nat.le_refl _) (by rw[H.m];exact Nat.le_refl _)
theorem Vy(H:Rel st env nums a L)(h:guardOf ops st o=some G) :
  (∀e∈G,∃b,Good env nums e (.bool b))/\(Region.wanted o (yielded ops a.tmps)=true<->∀e∈G,Good env nums e (.bool true)):=by
 unfold guardOf at h;split at h
 ·rename_i hg;cases h
  exact⟨by simp,by simp[Region.wanted,hg]⟩
 ·rename_i j want hg;split at h
  ·cases h
  ·rename_i t hdst;split at h
   ·rename_i g e hslot;split at h
    ·rename_i hc;cases h
     simp only[Bool.and_eq_true]at hc;have ge:=Qr H hc.2;obtain⟨b,hb⟩:=ge.bool hc.1;rw[hb]at ge;have glit:Good env nums (if want then e else .nt e) (.bool (if want then b else !b)):=by
      cases want
      ·simpa using Bw ge
      ·simpa using ge
     have hlt:t<a.tmps.size:=by
      rw[<-H.sz];exact(List.getElem?_eq_some_iff.1 hslot).1
     have hat:a.tmps[t]? = some (a.tmps.getD t undef):=by
      simp[hlt]
     have hy:yielded ops a.tmps j=match a.tmps.getD t undef with | .bool b=>some b | _=>none:=by
      unfold yielded;rw[hdst];simp only[Option.bind_some,hat];cases a.tmps.getD t undef <;> rfl
     refine⟨?_,?_⟩
     ·intro x hx;rcases List.mem_append.1 hx with h1 | h1
      ·exact H.gd t g _ hslot x h1
      ·simp at h1;subst h1;exact⟨_,glit⟩
     ·simp only[Region.wanted,hg];by_cases hall:∀x∈g,Good env nums x (.bool true)
      ·have hv:=H.vl t g _ hslot hall;have:a.tmps.getD t undef=.bool b:=Good.uniq hv ge;rw[hy,this];constructor
       ·intro hw x hx;rcases List.mem_append.1 hx with h1 | h1
        ·exact hall x h1
        ·simp at h1;subst h1;have:b=want:=by simpa using hw
         subst this;cases b <;> simpa using glit
       ·intro hx;have h1:=xr (glit.uniq (hx _ (by simp)));cases want <;> cases b <;> simp_all
      ·have hex:∃x∈g,Good env nums x (.bool false):=by
        have hall':∃x,¬(x∈g->Good env nums x (.bool true)):=Classical.not_forall.1 hall;obtain⟨x,hx⟩:=hall';have hxg:x∈g:=Classical.byContradiction fun hn=>hx fun hm=>absurd hm hn
        obtain⟨c,hc'⟩:=H.gd t g _ hslot x hxg;cases c with
        | false=>exact⟨x,hxg,hc'⟩
        | true=>exact absurd (fun _=>hc') hx
       have:=H.uv t g _ hslot hex;rw[hy,this];constructor
       ·intro hw;simp[undef]at hw
       ·intro hx;exact absurd (fun x hxg=>hx x (by simp[hxg])) hall
    ·cases h
   ·rename_i g hslot;split at h
    ·rename_i hc;cases h
     have gf:Good env nums (.cst (.bool false)) (.bool false):=xd _;have hmem:Ex.cst (.bool false)∈g:=by simpa using hc
     have hv:=H.uv t g _ hslot ⟨_,hmem,gf⟩;have hlt:t<a.tmps.size:=by
      rw[<-H.sz];exact(List.getElem?_eq_some_iff.1 hslot).1
     have hat:a.tmps[t]? = some (a.tmps.getD t undef):=by
      simp[hlt]
     have hy:yielded ops a.tmps j=none:=by
      unfold yielded;rw[hdst];simp only[Option.bind_some,hat,hv];rfl
     refine⟨fun e he=>?_,?_⟩
     ·simp only[List.mem_singleton]at he;subst he;exact⟨_,gf⟩
     ·simp only[Region.wanted,hg,hy];constructor
      ·intro hw;simp at hw
      ·intro hx;have:=xr (gf.uniq (hx _ (by simp)));cases this
    ·cases h
   ·cases h
theorem JP(hm:qd o=false)(he:jY cfg st G o=some e):e.GI=true:=by
 unfold jY at he;split at he
 ·unfold HN at he
  repeat' (first | (cases he;rfl) | contradiction | (obtain⟨_,_,rfl⟩:=Option.map_eq_some_iff.1 he;rfl) | split at he)
 ·cases ho:o.op with
  | load | store | alloc | box | buildSlice | makeSlice | convert=>simp[qd,ho]at hm
  | call c=>
   obtain⟨callee,args,ats⟩:=c;cases callee with
   | value f=>simp[qd,ho]at hm
   | invoke r n=>simp[qd,ho]at hm
   | builtin b=>
    cases b <;> simp[qd,ho]at hm
    all_goals simp only[zZ,ho]at he
    all_goals (repeat' (first | (cases he;rfl) | contradiction | split at he))
  | binOp op xt x y yt=>
   simp only[zZ,ho,JB,Lv]at he
   repeat' (first | (cases he;rfl) | contradiction | split at he)
  | _=>
   simp only[zZ,ho]at he
   repeat' (first | (cases he;rfl) | contradiction | (obtain⟨_,_,rfl⟩:=Option.map_eq_some_iff.1 he;rfl) | split at he)
theorem Vz:(HM need t).wp P S Λ Q env h Ks<->(∀e∈need,toBool (e.ev env [])=true)/\t.wp P S Λ Q env h Ks:=by
 induction need with
 | nil=>simp[HM]
 | cons e r ih=>simp only[HM,Tr.wp,ih,List.forall_mem_cons];exact and_assoc.symm
theorem QJ(hT:zJ P cfg.tab)(H:Rel st env nums a L)(hG:∀e∈G,Good env nums e (.bool true)){G':List Ex}{v:SV}{lr:Option Nat}(he:jY cfg st G o=some (.pure need v lr))
  (hk:xC st o.dst G' tag pins (.pure need v lr) k=some t)(hw:t.wp P S Λ Q env h Ks) :
  ∃u t',xU env nums v u/\k pins (st.put o.dst ⟨G',v⟩)=some t'/\t'.wp P S Λ Q env h Ks /\
   ∀L2 h w,Same (lr.bind fun j=>nums[j]?) L L2->Has w (plus h L2)->Apart h L2->wpE P S (plus h L2) w.heap.size (execOp a.eval o) w (fun n w'=>n=.value u/\w'=w):=by
 obtain⟨p1,p2⟩:=O0 (S:=S) hT H hG he;simp only[xC]at hk;split at hk
 ·rename_i hall;obtain⟨t',hk1,rfl⟩:=Option.map_eq_some_iff.1 hk;obtain⟨n1,n2⟩:=Vz.1 hw;obtain⟨u,hu,hx⟩:=p2 fun e he=>by
   obtain⟨b,hb⟩:=p1 e he;have h1:=n1 e he;rw[hb.nl (List.all_eq_true.1 hall e he)]at h1;simp only[toBool]at h1;subst h1;exact hb
  exact⟨u,t',hu,hk1,n2,hx⟩
 ·cases hk
theorem zaf(hT:zJ P cfg.tab)(H:Rel st env nums a L)(ha:Ok S h L)(he:jY cfg st [] o=some e)(hk:xC st o.dst [] tag pins e k=some t)(hw:t.wp P S Λ Q env h Ks)
  (hpr:yy env nums pins ps)(hps:yz (ps.map (·.2)) h)(hc:qP P S Λ Q Ks env nums st.d k ps K):OpW P S o a.eval L h (fun v L' h'=>yz (ps.map (·.2)) h'/\K (a.put o.dst v) L' h'):=by
 have hG:∀e∈([]:List Ex),Good env nums e (.bool true):=by simp
 by_cases hp:e.GI=true
 ·cases e <;> simp[Eff.GI]at hp
  rename_i need v lr;obtain⟨u,t',hu,hk1,hw1,hx⟩:=QJ hT H hG he hk hw;exact .same ha (fun w hh=>hx L h w (.refl _ _) hh ha.apart) ⟨hps,hc.go0 hk1 hw1 (H.Am _ hu) ha hpr hps (jQ _ _)⟩
 ·have hm:qd o=true:=by
   cases hm:qd o with
   | true=>rfl
   | false=>exact absurd (JP hm he) hp
  unfold jY at he;split at he
  ·rename_i ho;simp[qd,ho]at hm
  ·cases ho:o.op with
   | load ty x=>
    have hl:∃p agg shs,e=.load p agg shs:=by
     have he2:=he;simp only[zZ,ho]at he2;split at he2
     ·split at he2
      ·cases he2
      ·split at he2
       ·split at he2
        ·split at he2
         ·split at he2
          ·split at he2
           ·cases he2;exact absurd rfl hp
           ·split at he2
            ·cases he2;exact absurd rfl hp
            ·cases he2
          ·cases he2
         ·cases he2
        ·cases he2
       ·split at he2
        ·cases he2;exact⟨_,_,_,rfl⟩
        ·cases he2
     ·cases he2
    obtain⟨p,agg,shs,rfl⟩:=hl;obtain⟨vs,qv,u,t',ad,hv1,_,hk1,hw1,hu,q1,q2,hx⟩:=O8 hT H hG ho he hk hw;have R:=(H.more vs).Am o.dst (v:=EH agg (zi st.n shs)) (u:=u) hu;rw[k8 hv1]at R;have q3:yy (env++vs) nums ((Da p agg (zi st.n shs)).map (fun x=>(tag,x))++pins) ps:=fun q hq=>by
     obtain⟨p',h1,h2⟩:=hpr.kA vs q hq;exact⟨p',List.mem_append_right _ h1,h2⟩
    exact .same ha (fun w hh=>hx h L w q2 hh) ⟨hps,hc.go1 vs hk1 hw1 R ha q3 hps (jQ _ _)⟩
   | store ty x y=>exact Vu hT H ha hG ho he hk hw hpr hps hc
   | alloc ty=>exact Vw hT H ha ho he hk hw hpr hps hc
   | box ty x=>exact YS H ha hG ho he hk hw hpr hps hc
   | buildSlice ty len parts=>exact Vx hT H ha hG ho he hk hw hpr hc
   | makeSlice ty l c=>exact X7 hT H ha hG ho he hk hw hpr hc
   | convert src dst x=>exact XA hT H ha hG ho (by simpa using hp) he hk hw hpr hps hc
   | call c=>
    obtain⟨callee,args,ats⟩:=c;cases callee with
    | value f=>exact XB H ha hG ho he hk hw hpr hc
    | invoke r name=>exact Tm H ha hG ho he hk hw hpr hc
    | builtin b=>
     cases b with
     | append=>exact Tl hT H ha hG ho he hk hw hpr hc
     | _=>simp[qd,ho]at hm
   | _=>simp[qd,ho]at hm
theorem IV{skip run:St->Option Tr}:∀ {G:List Ex} {st:St} {t:Tr},JC st skip run G=some t->t.wp P S Λ Q env h Ks->Rel st env nums a L->(∀e∈G,∃b,Good env nums e (.bool b)) ->
  ((∀e∈G,Good env nums e (.bool true))/\∃st' t',Rel st' env nums a L/\st'.d=st.d/\run st'=some t'/\t'.wp P S Λ Q env h Ks) \/
  ((∃e∈G,Good env nums e (.bool false))/\∃st' t',Rel st' env nums a L/\st'.d=st.d/\skip st'=some t'/\t'.wp P S Λ Q env h Ks)
 | [],st,t,hf,hw,H,_=>.inl ⟨by simp,st,t,H,rfl,hf,hw⟩
 | g::r,st,t,hf,hw,H,hb=>by
  obtain⟨b,gb⟩:=hb g (by simp);have hr:∀e∈r,∃b,Good env nums e (.bool b):=fun e he=>hb e (by simp[he])
  have up:∀ {st1:St},Good env nums g (.bool true)->st1.d=st.d->(((∀e∈r,Good env nums e (.bool true))/\∃st' t',Rel st' env nums a L/\st'.d=st1.d/\run st'=some t'/\t'.wp P S Λ Q env h Ks) \/
    ((∃e∈r,Good env nums e (.bool false))/\∃st' t',Rel st' env nums a L/\st'.d=st1.d/\skip st'=some t'/\t'.wp P S Λ Q env h Ks)) ->
    ((∀e∈g::r,Good env nums e (.bool true))/\∃st' t',Rel st' env nums a L/\st'.d=st.d/\run st'=some t'/\t'.wp P S Λ Q env h Ks) \/
    ((∃e∈g::r,Good env nums e (.bool false))/\∃st' t',Rel st' env nums a L/\st'.d=st.d/\skip st'=some t'/\t'.wp P S Λ Q env h Ks):=by
   intro st1 hg hd hh;rw[hd]at hh;rcases hh with⟨h1,h2⟩ | ⟨⟨e,h1,h2⟩,h3⟩
   ·exact .inl ⟨fun e he=>by rcases List.mem_cons.1 he with rfl | he;exact hg;exact h1 e he,h2⟩
   ·exact .inr ⟨⟨e,by simp[h1],h2⟩,h3⟩
  unfold JC at hf;split at hf
  ·rename_i hk;exact up (k6 H ⟨b,gb⟩ hk) rfl (IV hf hw H hr)
  ·rename_i hk;exact .inr ⟨⟨g,by simp,k6 H ⟨b,gb⟩ hk⟩,st,t,H,rfl,hf,hw⟩
  ·split at hf
   ·cases hf
   ·rename_i hwi;simp only[Bool.not_eq_true',Bool.not_eq_false]at hwi;split at hf
    ·rename_i x y hx hy;cases hf
     obtain⟨w1,w2⟩:=hw;rw[gb.nl hwi]at w1 w2;simp only[toBool]at w1 w2;cases b with
     | true=>exact up (st1:=st.qb g true) gb rfl (IV hx (w1 rfl) (H.qb gb) hr)
     | false=>exact .inr ⟨⟨g,by simp,gb⟩,_,y,H.qb gb,rfl,hy,w2 rfl⟩
    ·cases hf
end
end Go.Eng
namespace Go.Eng
open Go
variable {p:Ex}{alone calm:Bool}{oj:Oper}{lr:Option Nat}
section
variable {P:Program}{S:Shared}{cfg:Cfg}{ops:Array Oper}{listed:Array Bool}{st:St}{env:List Value}{nums:List Nat}{a:Act}{L h:Heap}{G:List Ex}{o:Oper}{i:Nat}
variable {Λ:Hand}{Q:Value -> Heap -> Prop}{Ks:List Kt}{k:List (Nat × Ex × Ex) -> St -> Option Tr}{pins pins' : List (Nat × Ex × Ex)}{tag:Nat}{ps:List (Nat × Addr × Value)}{t t' : Tr}{e:Eff}{d:Nat}
theorem all_filter(H:Rel st env nums a L)(hb:∀e∈G,∃b,Good env nums e (.bool b))(h:∀e∈G.filter (fun g=>ju st g≠some true),Good env nums e (.bool true)):∀e∈G,Good env nums e (.bool true):=by
 intro e he;by_cases hk:ju st e=some true
 ·exact k6 H (hb e he) hk
 ·exact h e (List.mem_filter.2 ⟨he,by simpa using hk⟩)
theorem RZ{agg:Bool}{shs:List Sh}(he:jY cfg st G o=some (.load p agg shs)):∃ty x,o.op=.load ty x:=by
 have hm:qd o=true:=by
  cases hm:qd o with
  | true=>rfl
  | false=>exact absurd (JP hm he) (by simp[Eff.GI])
 unfold jY at he;split at he
 ·rename_i ho;simp[qd,ho]at hm
 ·cases ho:o.op with
  | load ty x=>exact⟨ty,x,rfl⟩
  | store | alloc | box | buildSlice | makeSlice=>
   simp only[zZ,ho]at he
   repeat' (first | (cases he;done) | contradiction | split at he)
  | convert src dst x=>
   simp only[zZ,ho]at he;split at he
   ·obtain⟨_,_,h2⟩:=Option.map_eq_some_iff.1 he;cases h2
   ·repeat' (first | (cases he;done) | contradiction | split at he)
   ·repeat' (first | (cases he;done) | contradiction | split at he)
   ·cases he
  | call c=>
   obtain⟨callee,args,ats⟩:=c;cases callee with
   | value f=>
    simp only[zZ,ho]at he
    repeat' (first | (cases he;done) | contradiction | split at he)
   | invoke r n=>
    simp only[zZ,ho]at he
    repeat' (first | (cases he;done) | contradiction | split at he)
   | builtin b=>
    cases b <;> simp[qd,ho]at hm
    simp only[zZ,ho]at he
    repeat' (first | (cases he;done) | contradiction | split at he)
  | _=>simp[qd,ho]at hm
def psD(ops:Array Oper)(alone:Bool)(i:Nat)(ps:List (Nat×Addr×Value)):List (Nat×Addr×Value):=if alone then xe ops i ps else ps
theorem XC(ho:ops[i]? = some o)(H:yy env nums pins ps):yy env nums (if alone=true then pins.filter (fun t => !waits o t.1)else pins) (psD ops alone i ps):=by
 unfold psD xe;cases alone with
 | false=>simpa using H
 | true=>
  simp only[if_true,ho];intro q hq;obtain⟨h1,h2⟩:=List.mem_filter.1 hq;obtain⟨p,hp,h3,h4⟩:=H q h1;exact⟨p,List.mem_filter.2 ⟨hp,by rw[h3];exact h2⟩,h3,h4⟩
theorem V0(H:yz (ps.map (·.2)) h):yz ((psD ops alone i ps).map (·.2)) h:=by
 unfold psD;split
 ·exact H.sub fun q hq=>jX hq
 ·exact H
def BI(P:Program)(S:Shared)(ops:Array Oper)(listed:Array Bool)(alone:Bool)(i:Nat)(o:Oper)(ps:List (Nat×Addr×Value))(K:List (Nat×Addr×Value)->Act->Heap->Heap->Prop)(a:Act)(L h:Heap):Prop:=
 if alone then kY P S ops i ((xe ops i ps).map (·.2)) (K (xe ops i ps)) a L h else
 ∃lb qs v,Yl P S ops lb qs o v a L/\(∀j oj,ops[j]? = some oj->j≠i->listed.getD j true=false->(∀e∈oj.after,Region.binds .any e=true->e.on≠i)->o.apart ops oj=true/\qx ops listed a lb oj) /\
  yz qs h/\K (qs.map (fun q=>(i,q))++ps) (a.put o.dst v) L h
theorem BI.NT{K:List (Nat×Addr×Value)->Act->Heap->Heap->Prop}{lb:Option Nat}{v:Value}(ho:ops[i]? = some o)(ha:Ok S h L)(hps:yz (ps.map (·.2)) h)(hy:Yl P S ops lb [] o v a L)
  (hf:alone=false->∀j oj,ops[j]? = some oj->j≠i->listed.getD j true=false->(∀e∈oj.after,Region.binds .any e=true->e.on≠i)->o.apart ops oj=true/\qx ops listed a lb oj)
  (hk:K (psD ops alone i ps) (a.put o.dst v) L h):BI P S ops listed alone i o ps K a L h:=by
 unfold BI;cases alone with
 | true=>simp only[if_true];exact hy.kY ho (.nil h) (hps.sub fun q hq=>jX hq) ha hk
 | false=>simp only[vK,if_false];exact⟨lb,[],v,hy,hf rfl,.nil h,hk⟩
theorem Qs(H:Rel st env nums a L){j:Nat}(h:IP ops listed st j oj=true):qx ops listed a (nums[j]?) oj:=by
 intro b hb;unfold IP at h;split at h
 ·rename_i ty t y hop;simp only[Bool.and_eq_true]at h;obtain⟨h1,h2⟩:=h;split at h1
  ·rename_i j' off hslot;simp only[Bool.and_eq_true,bne_iff_ne,decide_eq_true_eq]at h1;have hv:=H.vl t [] _ hslot (by simp);have hval:a.tmps.getD t undef=.pointer (some ⟨nums.getD j' 0,off,none⟩):=(Good.at hv).symm;refine⟨?_,?_⟩
   ·simp only[kG,hop,Act.eval,hval];intro hh;have e1:nums.getD j' 0=b:=by simpa using hh
    have hj':j'<nums.length:=by rw[<-H.m];exact h1.2
    obtain⟨l2,e2⟩:=List.getElem?_eq_some_iff.1 hb;have e3:nums[j']=nums[j]:=by
     rw[e2,<-e1];simp[hj']
    exact h1.1 ((List.getElem_inj H.nd).1 e3)
   ·intro k ok hok hun d hd hst;simp only[AE,hop]at hst;cases hst
    have:=List.all_eq_true.1 h2 k (List.mem_range.2 (Array.getElem?_eq_some_iff.1 hok).1);simp only[hun,hok,Bool.false_or]at this;simp[hd]at this
  ·cases h1
 ·cases h
 ·rename_i hn1 hn2;have h1:kG oj a.eval=none:=by
   unfold kG;split
   ·rename_i ty x y hop;exact absurd hop (hn2 ty x y)
   ·rfl
  have h2:AE oj=none:=by
   unfold AE;split
   ·rename_i ty x y hop;exact absurd hop (hn2 ty _ y)
   ·rfl
  exact⟨by rw[h1];simp,fun k ok _ _ d _=>by rw[h2];simp⟩
theorem Eo(H:Rel st env nums a L)(hi:ops[i]? = some o)(h:Bs ops listed st i lr=true) :
  ∀j oj,ops[j]? = some oj->j≠i->listed.getD j true=false->(∀e∈oj.after,Region.binds .any e=true->e.on≠i)->o.apart ops oj=true/\qx ops listed a (lr.bind fun j=>nums[j]?) oj:=by
 unfold Bs at h;simp only[Bool.and_eq_true]at h;intro j oj hj hne hun hno;refine⟨Region.free_spec hi h.1 j oj hj hne hun hno,?_⟩;cases lr with
 | none=>intro b hb;cases hb
 | some l=>
  simp only[Option.bind_some];have:=List.all_eq_true.1 h.2 j (List.mem_range.2 (Array.getElem?_eq_some_iff.1 hj).1);simp only[hj,hun,Bool.or_eq_true,beq_iff_eq,hne,false_or,vK]at this;rcases this with h1 | h1
  ·obtain⟨e,he,hb⟩:=Array.any_eq_true'.1 h1;simp only[Bool.and_eq_true,beq_iff_eq]at hb;exact absurd hb.2 (hno e he hb.1)
  ·exact Qs H h1
theorem LH(h:∀ty x y,oj.op ≠ .store ty x y)(listed:Array Bool)(a:Act)(lb:Option Nat):qx ops listed a lb oj:=by
 intro b hb;have h1:kG oj a.eval=none:=by
  unfold kG;split
  ·rename_i ty x y hop;exact absurd hop (h ty x y)
  ·rfl
 have h2:AE oj=none:=by
  unfold AE;split
  ·rename_i ty x y hop;exact absurd hop (h ty _ y)
  ·rfl
 exact⟨by rw[h1];simp,fun k ok _ _ d _=>by rw[h2];simp⟩
def GJ(ops:Array Oper)(listed:Array Bool)(i:Nat)(o:Oper)(a:Act):Prop:=
 ∀j oj,ops[j]? = some oj->j≠i->listed.getD j true=false->(∀e∈oj.after,Region.binds .any e=true->e.on≠i)->o.apart ops oj=true/\∀lb,qx ops listed a lb oj
theorem GK(H:Rel st env nums a L)(hi:ops[i]? = some o)(hcalm:calm=true->GJ ops listed i o a){need:List Ex}{v:SV}(h:Ay calm ops listed st i (some (.pure need v lr))=true) :
  ∀j oj,ops[j]? = some oj->j≠i->listed.getD j true=false->(∀e∈oj.after,Region.binds .any e=true->e.on≠i)->o.apart ops oj=true/\qx ops listed a (lr.bind fun j=>nums[j]?) oj:=by
 unfold Ay at h;split at h
 ·rename_i hc;exact fun j oj h1 h2 h3 h4=>⟨(hcalm hc j oj h1 h2 h3 h4).1,(hcalm hc j oj h1 h2 h3 h4).2 _⟩
 ·exact Eo H hi h
theorem OF(H:Rel st env nums a L)(hi:ops[i]? = some o)(hcalm:calm=true->GJ ops listed i o a){agg:Bool}{shs:List Sh}(h:Ay calm ops listed st i (some (.load p agg shs))=true) :
  ∀j oj,ops[j]? = some oj->j≠i->listed.getD j true=false->(∀e∈oj.after,Region.binds .any e=true->e.on≠i)->o.apart ops oj=true/\qx ops listed a none oj:=by
 unfold Ay at h;split at h
 ·rename_i hc;exact fun j oj h1 h2 h3 h4=>⟨(hcalm hc j oj h1 h2 h3 h4).1,(hcalm hc j oj h1 h2 h3 h4).2 _⟩
 ·exact Eo (lr:=none) H hi h
theorem Tn(H:Rel st env nums a L)(hi:ops[i]? = some o)(hcalm:calm=true->GJ ops listed i o a)(h:JD calm ops listed st i=true) :
  ∀j oj,ops[j]? = some oj->j≠i->listed.getD j true=false->(∀e∈oj.after,Region.binds .any e=true->e.on≠i)->o.apart ops oj=true/\qx ops listed a none oj:=by
 unfold JD at h;split at h
 ·rename_i hc;exact fun j oj h1 h2 h3 h4=>⟨(hcalm hc j oj h1 h2 h3 h4).1,(hcalm hc j oj h1 h2 h3 h4).2 _⟩
 ·exact Eo (lr:=none) H hi h
theorem HW(hT:zJ P cfg.tab){K:List (Nat×Addr×Value)->Act->Heap->Heap->Prop}(hcalm:calm=true->GJ ops listed i o a)(ho:ops[i]? = some o)(ht:AF cfg ops listed alone calm i o k pins st=some t)(hw:t.wp P S Λ Q env h Ks)
  (H:Rel st env nums a L)(ha:Ok S h L)(hpr:yy env nums pins ps)(hps:yz (ps.map (·.2)) h)(hc:∀ps',qP P S Λ Q Ks env nums st.d k ps' (K ps')):BI P S ops listed alone i o ps K a L h:=by
 unfold AF at ht;simp only at ht;have hpr:=XC (alone:=alone) ho hpr;generalize (if alone=true then pins.filter (fun t => !waits o t.1)else pins)=pinsD at ht hpr;have hps2:=V0 (ops:=ops) (alone:=alone) (i:=i) hps;split at ht
 ·cases ht
 ·rename_i G hG;obtain⟨gb,gw⟩:=Vy H hG;split at ht
  ·rename_i e hlazy;have he:jY cfg st G o=some e/\G5 e=true:=by
    split at hlazy
    ·cases hlazy
    ·split at hlazy
     ·rename_i e' he';split at hlazy
      ·rename_i hf;cases hlazy;exact⟨he',hf⟩
      ·cases hlazy
     ·cases hlazy
   split at ht
   ·rename_i hok;obtain⟨he,hfree⟩:=he;have:∃v lr,e=.pure [] v lr:=by
     cases e <;> simp[G5]at hfree
     rename_i need v lr;cases need with
     | nil=>exact⟨v,lr,rfl⟩
     | cons _ _=>simp at hfree
    obtain⟨v,lr,rfl⟩:=this;have ht':=ht;simp only[xC,List.all_nil,if_true]at ht';obtain⟨t',hk1,rfl⟩:=Option.map_eq_some_iff.1 ht';have hw1:t'.wp P S Λ Q env h Ks:=by simpa[HM]using hw
    have hf:alone=false->∀j oj,ops[j]? = some oj->j≠i->listed.getD j true=false->(∀e∈oj.after,Region.binds .any e=true->e.on≠i)->o.apart ops oj=true/\qx ops listed a (lr.bind fun j=>nums[j]?) oj:=by
     intro hal;rw[hal]at hok;simp only[Bool.false_or]at hok;exact GK H ho hcalm hok
    by_cases hwd:Region.wanted o (yielded ops a.tmps)=true
    ·have hGt:=gw.1 hwd;obtain⟨p1,p2⟩:=O0 (S:=S) hT H hGt he;obtain⟨u,hu,hx⟩:=p2 (by simp);have R:=H.put o.dst (G:=G.filter fun g=>ju st g≠some true) (v:=v) (u:=u) (fun e he=>gb e (List.mem_filter.1 he).1) (fun _=>hu)
      (fun⟨e,he,hf⟩=>absurd (xr ((hGt e (List.mem_filter.1 he).1).uniq hf)) (by simp))
     refine .NT (lb:=lr.bind fun j=>nums[j]?) (v:=u) ho ha hps ?_ hf ((hc _).go0 hk1 hw1 R ha hpr hps2 (jQ _ _));unfold Yl;rw[if_pos hwd];exact fun L2 h w h1 h2 h3 h4=>hx L2 h w h1 h3 h4
    ·have R:=H.put o.dst (G:=G.filter fun g=>ju st g≠some true) (v:=v) (u:=undef) (fun e he=>gb e (List.mem_filter.1 he).1) (fun hall=>absurd (gw.2 (all_filter H gb hall)) hwd) (fun _=>rfl);refine .NT (lb:=lr.bind fun j=>nums[j]?) (v:=undef) ho ha hps ?_ hf ((hc _).go0 hk1 hw1 R ha hpr hps2 (jQ _ _));unfold Yl;rw[if_neg hwd]
   ·cases ht
  ·
   rcases IV ht hw H gb with⟨hGt,st',t',H',hd,hrun,hw'⟩ | ⟨⟨e,he,hef⟩,st',t',H',hd,hskip,hw'⟩
   ·have hwd:=gw.2 hGt;split at hrun
    ·rename_i e he;split at hrun
     ·rename_i hok;cases alone with
      | true=>
       unfold BI kY;simp only[if_true,ho,hwd];exact zaf hT H' ha he hrun hw' hpr hps2 (by rw[hd];exact hc _)
      | false=>
       simp only[Bool.false_or]at hok;cases e with
       | pure need v lr=>
        obtain⟨u,t2,hu,hk1,hw1,hx⟩:=QJ (G:=[]) hT H' (by simp) he hrun hw';refine .NT (lb:=lr.bind fun j=>nums[j]?) (v:=u) ho ha hps ?_ (fun _=>GK H ho hcalm hok) ((hc _).go0 hk1 hw1 (H'.Am _ hu) ha hpr hps2 ((jQ _ _).trans hd));unfold Yl;rw[if_pos hwd];exact fun L2 h w h1 h2 h3 h4=>hx L2 h w h1 h3 h4
       | load p agg shs=>
        have hm:=RZ he;obtain⟨ty,x,hop⟩:=hm;have he2:zZ cfg st' [] o=some (.load p agg shs):=by
         unfold jY at he;rw[hop]at he;exact he
        obtain⟨vs,qv,u,t2,ad,hv1,_,hk1,hw1,hu,q1,q2,hx⟩:=O8 hT H' (by simp) hop he2 hrun hw';have R:=(H'.more vs).Am o.dst (v:=EH agg (zi st'.n shs)) (u:=u) hu;rw[k8 hv1]at R;unfold BI;simp only[vK,if_false];refine⟨none,vs.zipIdx.map fun x=>(ad.add x.2,x.1),u,?_,OF H ho hcalm hok,q2,?_⟩
        ·unfold Yl;rw[if_pos hwd];exact fun L2 h2 w h1 h3 h4 h5=>hx h2 L2 w h3 h4
        ·refine(hc _).go1 vs hk1 hw1 R ha ?_ ?_ ((jQ _ _).trans hd)
         ·intro q hq;rcases List.mem_append.1 hq with h1 | h1
          ·obtain⟨p',a1,a2⟩:=q1 q h1;exact⟨p',List.mem_append_left _ a1,a2⟩
          ·obtain⟨p',a1,a2⟩:=hpr.kA vs q h1;exact⟨p',List.mem_append_right _ a1,a2⟩
         ·intro q hq;rw[List.map_append]at hq;rcases List.mem_append.1 hq with h1 | h1
          ·obtain⟨t,ht,rfl⟩:=List.mem_map.1 h1;obtain⟨q0,hq0,rfl⟩:=List.mem_map.1 ht;exact q2 q0 hq0
          ·exact hps q h1
       | _=>cases calm <;> simp[Ay,Fv,QE]at hok
     ·cases hrun
    ·cases hrun
   ·have hwd:¬Region.wanted o (yielded ops a.tmps)=true:=fun hw=>absurd (xr (((gw.1 hw) e he).uniq hef)) (by simp)
    split at hskip
    ·rename_i hok;have gf:Good env nums (.cst (.bool false)) (.bool false):=xd _;have R:=H'.put o.dst (G:=[.cst (.bool false)]) (v:=.junk) (u:=undef) (fun e he=>by simp only[List.mem_singleton]at he;subst he;exact⟨_,gf⟩)
      (fun hall=>by have:=xr (gf.uniq (hall _ (by simp)));cases this) (fun _=>rfl)
     refine .NT (lb:=none) (v:=undef) ho ha hps ?_ (fun hal=>?_) ((hc _).go0 hskip hw' R ha hpr hps2 ((jQ _ _).trans hd))
     ·unfold Yl;rw[if_neg hwd]
     ·rw[hal]at hok;simp only[Bool.false_or]at hok;exact Tn H ho hcalm hok
    ·cases hskip
def Fin(S:Shared)(Λ:Hand)(Ks:List Kt)(env:List Value)(nums:List Nat)(d:Nat)(R:Act->Heap->Heap->Prop):Prop:=
 ∀st' vs ms a' L' h',Λ (.norm st') (env++vs) h' Ks->Rel st' (env++vs) (nums++ms) a' L'->Ok S h' L'->st'.d=d->R a' L' h'
theorem Fin.more{R:Act->Heap->Heap->Prop}(H:Fin S Λ Ks env nums d R)(vs:List Value)(ms:List Nat):Fin S Λ Ks (env++vs) (nums++ms) d R:=by
 intro st' vs' ms' a' L' h' h1 h2 h3 h4;rw[List.append_assoc]at h1 h2;rw[List.append_assoc]at h2;exact H st' _ _ a' L' h' h1 h2 h3 h4
theorem OG:∀ {ts:List (Option Tr)} {t:Tr},NP ts=some t->∀ {env:List Value} {h:Heap} {Ks:List Kt},t.wp P S Λ Q env h Ks->∀x∈ts,∃u,x=some u/\u.wp P S Λ Q env h Ks
 | [],t,ht,_,_,_,_=>by cases ht
 | [x],t,ht,env,h,Ks,hw=>fun y hy=>by
  simp only[List.mem_singleton]at hy;subst hy;exact⟨t,ht,hw⟩
 | x::y::r,t,ht,env,h,Ks,hw=>fun z hz=>by
  simp only[NP]at ht;split at ht
  ·rename_i a b hb;cases ht
   simp only[Tr.wp]at hw;rcases List.mem_cons.1 hz with rfl | hz
   ·exact⟨a,rfl,hw.1⟩
   ·exact OG hb hw.2 z hz
  ·cases ht
theorem To(hT:zJ P cfg.tab)(hsel:Region.noSelect ops=true){R:Act->Heap->Heap->Prop}:∀(fuel:Nat) (listed:Array Bool) (pins:List (Nat×Ex×Ex)) (st:St) (t:Tr) (env:List Value) (nums:List Nat) (a:Act) (L h:Heap) (ps:List (Nat×Addr×Value)),
  sxA cfg ops fuel listed pins st=some t->t.wp P S Λ Q env h Ks->Rel st env nums a L->Ok S h L->yy env nums pins ps->yz (ps.map (·.2)) h->Fin S Λ Ks env nums st.d R->wR P S ops R fuel ps listed a L h:=by
 intro fuel;induction fuel with
 | zero=>
  intro listed pins st t env nums a L h ps ht hw H ha hpr hps hf;simp only[sxA]at ht;split at ht
  ·rename_i hr;cases ht
   exact⟨hr,hf st [] [] a L h (by simpa[Tr.wp]using hw) (by simpa using H) ha rfl⟩
  ·cases ht
 | succ fuel ih=>
  intro listed pins st t env nums a L h ps ht hw H ha hpr hps hf;simp only[sxA]at ht;split at ht
  ·rename_i hr;cases ht
   refine⟨fun _=>hf st [] [] a L h (by simpa[Tr.wp]using hw) (by simpa using H) ha rfl,fun i hi=>?_⟩;rw[hr]at hi;cases hi
  ·rename_i hne;split at ht
   ·
    refine⟨fun h=>absurd h hne,fun i hi=>?_⟩;obtain⟨u,hu,hwu⟩:=OG ht hw _ (List.mem_map.2 ⟨i,hi,rfl⟩);split at hu
    ·cases hu
    ·rename_i o ho;have X:=HW (alone:=true) (calm:=false) (K:=fun ps'=>wR P S ops R fuel ps' (listed.setIfInBounds i true)) hT (fun h=>by cases h) ho hu hwu H ha hpr hps (fun ps'=>by
      intro st' pins' t' vs ms a' L' h' h1 h2 h3 h4 h5 h6 h7
      exact ih _ pins' st' t' _ _ a' L' h' ps' h1 h2 h3 h4 h5 h6 (by rw[h7];exact hf.more vs ms))
     unfold BI at X;simpa using X
   generalize ((EF cfg ops st listed (Region.ready .any ops listed)).getD ((Region.ready .any ops listed).headD 0))=i at ht;split at ht
   ·cases ht
   ·rename_i o ho;split at ht
    ·cases ht
    ·rename_i hmem;have hmem:i∈Region.ready .any ops listed:=by simpa using hmem
     have X:=HW (calm:=false) (K:=fun ps'=>wR P S ops R fuel ps' (listed.setIfInBounds i true)) hT (fun h=>by cases h) ho ht hw H ha hpr hps (fun ps'=>by
      intro st' pins' t' vs ms a' L' h' h1 h2 h3 h4 h5 h6 h7
      exact ih _ pins' st' t' _ _ a' L' h' ps' h1 h2 h3 h4 h5 h6 (by rw[h7];exact hf.more vs ms))
     unfold BI at X;split at X
     ·rename_i hal;exact SN (by simpa using hal) X
     ·obtain⟨lb,qs,v,x1,x2,x3,x4⟩:=X;exact JA ho (fun j o cs b hj=>Region.noSelect_spec hsel j o cs b hj) fuel ps listed a L h ha hps x3 x2 hmem x1 x4
theorem JQ(h:NO ops=true)(hi:ops[i]? = some o):(∀e∈o.after,Region.binds .any e=true->e.on<i)/\(∀ty x y,o.op ≠ .store ty x y) /\
  ∀j oj,ops[j]? = some oj->i<j->(∀e∈oj.after,Region.binds .any e=true->e.on≠i)->o.apart ops oj=true:=by
 unfold NO at h;have h1:=List.all_eq_true.1 h i (List.mem_range.2 (Array.getElem?_eq_some_iff.1 hi).1);simp only[hi,Bool.and_eq_true]at h1;obtain⟨⟨h2,h3⟩,h4⟩:=h1;refine⟨fun e he hb=>?_,fun ty x y hop=>?_,fun j oj hj hij hno=>?_⟩
 ·have:=Array.all_eq_true_iff_forall_mem.1 h3 e he;simpa[hb]using this
 ·rw[hop]at h2;cases h2
 ·have h5:=List.all_eq_true.1 h4 j (List.mem_range.2 (Array.getElem?_eq_some_iff.1 hj).1);simp only[hj,Bool.or_eq_true,decide_eq_true_eq]at h5;rcases h5 with h5 | h5 | h5
  ·omega
  ·obtain⟨e,he,hb⟩:=Array.any_eq_true'.1 h5;simp only[Bool.and_eq_true,beq_iff_eq]at hb;exact absurd hb.2 (hno e he hb.1)
  ·exact h5
theorem Qt{l1 l2:Array Bool}:AF cfg ops l1 false true i o k pins st=AF cfg ops l2 false true i o k pins st:=by
 simp[AF,Ay,JD]
theorem YU(hT:zJ P cfg.tab)(hsel:Region.noSelect ops=true)(hcl:NO ops=true){R:Act->Heap->Heap->Prop}:∀(fuel i:Nat) (listed:Array Bool) (pins:List (Nat×Ex×Ex)) (st:St) (t:Tr) (env:List Value) (nums:List Nat) (a:Act) (L h:Heap) (ps:List (Nat×Addr×Value)),
  i+fuel=ops.size->listed.size=ops.size->(∀j,j<ops.size->listed.getD j true=decide (j<i)) ->
  sxG cfg ops fuel i pins st=some t->t.wp P S Λ Q env h Ks->Rel st env nums a L->Ok S h L->yy env nums pins ps->yz (ps.map (·.2)) h->Fin S Λ Ks env nums st.d R->wR P S ops R fuel ps listed a L h:=by
 intro fuel;induction fuel with
 | zero=>
  intro i listed pins st t env nums a L h ps hs hz hl ht hw H ha hpr hps hf;simp only[sxG]at ht;cases ht
  refine⟨?_,hf st [] [] a L h (by simpa[Tr.wp]using hw) (by simpa using H) ha rfl⟩;unfold Region.ready;rw[List.filter_eq_nil_iff];intro j hj;have hj2:=List.mem_range.1 hj;rw[hl j hj2,decide_eq_true (show j<i by omega)];simp
 | succ fuel ih=>
  intro i listed pins st t env nums a L h ps hs hz hl ht hw H ha hpr hps hf;simp only[sxG]at ht;split at ht
  ·cases ht
  ·rename_i o ho;obtain⟨c1,c2,c3⟩:=JQ hcl ho;have hil:i<ops.size:=by omega
   have hmem:i∈Region.ready .any ops listed:=by
    unfold Region.ready;rw[List.mem_filter];refine⟨List.mem_range.2 hil,?_⟩;rw[hl i hil,ho];simp only[Nat.lt_irrefl,decide_false,Bool.not_false,Bool.true_and,Option.map_some,Option.getD_some];refine Array.all_eq_true_iff_forall_mem.2 fun e he=>?_
    cases hb:Region.binds .any e with
    | false=>rfl
    | true=>
     have:=c1 e he hb;have h2:=hl e.on (by omega);rw[decide_eq_true this]at h2;have hlt:e.on<listed.size:=by omega
     simp only[Array.getD,hlt,dif_pos]at h2 ⊢;rw[h2];rfl
   have hcalm:(true=true)->GJ ops listed i o a:=fun _ j oj hj hne hun hno=>by
    have hjl:=(Array.getElem?_eq_some_iff.1 hj).1;have hij:i<j:=by
     have:=hl j hjl;rw[hun]at this;have:=of_decide_eq_false this.symm;omega
    exact⟨c3 j oj hj hij hno,fun lb=>LH (JQ hcl hj).2.1 _ _ _⟩
   rw[Qt (l2:=listed)]at ht;have X:=HW (calm:=true) (alone:=false) (K:=fun ps'=>wR P S ops R fuel ps' (listed.setIfInBounds i true)) hT hcalm ho ht hw H ha hpr hps (fun ps'=>by
    intro st' pins' t' vs ms a' L' h' h1 h2 h3 h4 h5 h6 h7
    refine ih (i+1) _ pins' st' t' _ _ a' L' h' ps' (by omega) (by simpa using hz) (fun j hj=>?_) h1 h2 h3 h4 h5 h6 (by rw[h7];exact hf.more vs ms)
    have hl2:=hl j hj
    by_cases hji:i=j
    ·subst hji
     rw[decide_eq_true (by omega)]
     simp[Array.getD,hz,hj]
    ·have e1:(listed.setIfInBounds i true).getD j true=listed.getD j true:=by
      simp only[Array.getD_eq_getD_getElem?]
      rw[Array.getElem?_setIfInBounds_ne hji]
     rw[e1,hl2]
     congr 1
     exact propext ⟨fun h=>by omega,fun h=>by omega⟩)
   unfold BI at X;simp only[vK,if_false]at X;obtain⟨lb,qs,v,x1,x2,x3,x4⟩:=X;exact JA ho (fun j o cs b hj=>Region.noSelect_spec hsel j o cs b hj) fuel ps listed a L h ha hps x3 x2 hmem x1 x4
theorem YV(hT:zJ P cfg.tab){R:Act->Heap->Heap->Prop}:∀(l:List Nat) (st:St) (t:Tr) (env:List Value) (nums:List Nat) (a:Act) (L h:Heap),
  sxQ cfg ops l st=some t->t.wp P S Λ Q env h Ks->Rel st env nums a L->Ok S h L->Fin S Λ Ks env nums st.d R->qM P S ops R l a L h:=by
 intro l;induction l with
 | nil=>
  intro st t env nums a L h ht hw H ha hf;simp only[sxQ]at ht;cases ht
  exact hf st [] [] a L h (by simpa[Tr.wp]using hw) (by simpa using H) ha rfl
 | cons i r ih=>
  intro st t env nums a L h ht hw H ha hf;simp only[sxQ]at ht;split at ht
  ·cases ht
  ·rename_i o ho;have X:=HW (ps:=[]) (calm:=false) (K:=fun _=>qM P S ops R r) hT (fun h=>by cases h) ho ht hw H ha (fun q hq=>by simp at hq) (.nil h) (fun ps'=>by
    intro st' pins' t' vs ms a' L' h' h1 h2 h3 h4 h5 h6 h7
    exact ih st' t' _ _ a' L' h' h1 h2 h3 h4 (by rw[h7];exact hf.more vs ms))
   unfold BI at X;have e0:xe ops i []=[]:=by unfold xe;split <;> rfl
   simp only[if_true,e0]at X;exact X
theorem GL(hT:zJ P cfg.tab)(hm:P.follows .mixedOrders=true){draw:Bool}{id:Nat}{Post:Frame->List Frame->Heap->Prop}{b:Frame}{k:List Item}{cs:List Frame}(hp:Up S Post)
  (ht:sxR cfg ops draw st=some t)(hw:t.wp P S Λ Q env h Ks)(H:Rel st env nums a L)(ha:Ok S h L)
  (hf:Fin S Λ Ks env nums st.d fun a' L' h'=>Safe P S Post (b.at a' k) cs (plus h' L')):Safe P S Post (b.at a (.code (.region id ops draw)::k)) cs (plus h L):=by
 unfold sxR at ht;split at ht
 ·rename_i hd;subst hd;split at ht
  ·rename_i hsel;refine .J6 fun t'=>?_
   have hf2:Fin S Λ Ks env nums st.d (fun a' L' h'=>Ok S h' L'/\Safe P S Post (b.at a' k) cs (plus h' L')):=fun st' vs ms a' L' h' h1 h2 h3 h4=>⟨h3,hf st' vs ms a' L' h' h1 h2 h3 h4⟩
   have X:wR P S ops (fun a' L' h'=>Ok S h' L'/\Safe P S Post (b.at a' k) cs (plus h' L')) ops.size [] (Array.replicate ops.size false) a L h:=by
    split at ht
    ·rename_i t1 hg;cases ht
     split at hg
     ·rename_i hcl;exact YU hT hsel hcl ops.size 0 (Array.replicate ops.size false) [] st _ env nums a L h [] (by omega) (by simp) (fun j hj=>by simp[Array.getD,hj]) hg hw H ha (fun q hq=>by simp at hq) (.nil h) hf2
     ·cases hg
    ·exact To hT hsel ops.size (Array.replicate ops.size false) [] st t env nums a L h [] ht hw H ha (fun q hq=>by simp at hq) (.nil h) hf2
   have Y:=J9 ops.size t' [] _ a L h ha X;have e:Region.schedule (P.follows .mixedOrders) ops t'=Region.linearise.go .any ops ops.size t' (Array.replicate ops.size false) []:=by
    simp[Region.schedule,hm,Region.linearise]
   rw[e];exact MB hp _ a L h ha Y fun a' L' h' _ h2=>h2.2
  ·cases ht
 ·rename_i hd;have:draw=false:=by simpa using hd
  subst this;refine .region ?_;have X:=YV (R:=fun a' L' h'=>Safe P S Post (b.at a' k) cs (plus h' L')) hT (List.range ops.size) st t env nums a L h ht hw H ha hf;exact MB hp _ a L h ha X fun a' L' h' _ h2=>h2
end
end Go.Eng
namespace Go.Eng
open Go
section
variable {P:Program}{S:Shared}{cfg:Cfg}{st:St}{env vs us:List Value}{nums ms:List Nat}{a:Act}{L h:Heap}
variable {Λ:Hand}{Q:Value -> Heap -> Prop}{Ks:List Kt}{t t' : Tr}
theorem Ep{e:Ex}{u:Value}(h:Good (env++vs) (nums++ms) e u)(hw:e.within env.length nums.length=true):Good env nums e u:=by
 have h1:e.ev env nums=u:=by rw[<-h.at,G8 vs ms e hw (Nat.le_refl _) (Nat.le_refl _)]
 intro xs ys;rw[G8 xs ys e hw (Nat.le_refl _) (Nat.le_refl _),h1]
theorem Dd:∀ {es:List Ex} {xs:List Value},zY (env++vs) (nums++ms) es xs->es.all (·.within env.length nums.length)=true->zY env nums es xs
 | [],[],_,_=>trivial
 | _::_,_::_,h,hw=>by
  simp only[List.all_cons,Bool.and_eq_true]at hw;exact⟨Ep h.1 hw.1,Dd h.2 hw.2⟩
 | [],_::_,h,_=>h.elim
 | _::_,[],h,_=>h.elim
theorem GM:∀ {es:List (Bool×List Ex)} {xs:List Value},Ad (env++vs) (nums++ms) es xs->(es.all fun c=>c.2.all (·.within env.length nums.length))=true->Ad env nums es xs
 | [],[],_,_=>trivial
 | c::_,_::_,h,hw=>by
  simp only[List.all_cons,Bool.and_eq_true]at hw;refine⟨?_,GM h.2 hw.2⟩;have h1:=h.1;unfold j6 at *;split at h1
  ·rename_i hc;rw[if_pos hc];obtain⟨xs,k1,k2⟩:=h1;exact⟨xs,k1,Dd k2 hw.1⟩
  ·rename_i hc;rw[if_neg hc];obtain⟨e,k1,k2⟩:=h1;rw[k1]at hw;simp only[List.all_cons,List.all_nil,Bool.and_true]at hw;exact⟨e,k1,Ep k2 hw.1⟩
 | [],_::_,h,_=>h.elim
 | _::_,[],h,_=>h.elim
theorem GN:∀ {l:List (Nat×Sh)} {tmps:List GV} {n i:Nat} {v:GV},(CX tmps n l)[i]? = some v ->
  (tmps[i]? = some v/\l.any (·.1==i)=false)\/∃idx s,l[idx]? = some (i,s)/\v=⟨[],.x (.var s (n+idx))⟩
 | [],tmps,n,i,v,h=>.inl ⟨h,rfl⟩
 | (j,s)::r,tmps,n,i,v,h=>by
  simp only[CX]at h;rcases GN h with⟨h1,h2⟩ | ⟨idx,s',h1,h2⟩
  ·rw[List.getElem?_set]at h1;split at h1
   ·rename_i hji;subst hji;split at h1
    ·cases h1;exact .inr ⟨0,s,rfl,rfl⟩
    ·cases h1
   ·rename_i hji;exact .inl ⟨h1,by simp[h2,hji]⟩
  ·exact .inr ⟨idx+1,s',by simpa using h1,by rw[h2];simp[Nat.add_comm,Nat.add_left_comm]⟩
theorem GO:∀ {l:List (Nat×Nat×Sh)} {loc:List (TypeId×List (Option Ex))} {n j:Nat} {T:TypeId} {cs:List (Option Ex)},(Al loc n l)[j]? = some (T,cs) ->
  ∀(o:Nat) x,cs[o]? = some x->(l.any (fun q=>q.1==j&&q.2.1==o)=false)\/∃idx s,l[idx]? = some (j,o,s)/\x=some (.var s (n+idx))
 | [],loc,n,j,T,cs,h,o,x,hx=>.inl rfl
 | (j',o',s)::r,loc,n,j,T,cs,h,o,x,hx=>by
  simp only[Al]at h;rcases GO h o x hx with h2 | ⟨idx,s',h1,h2⟩
  ·by_cases hq:j'=j/\o'=o
   ·obtain⟨rfl,rfl⟩:=hq;refine .inr ⟨0,s,rfl,?_⟩;have stay:∀(l:List (Nat×Nat×Sh)) (loc:List (TypeId×List (Option Ex))) (n:Nat) (T:TypeId) (cs:List (Option Ex)) (y:Option Ex),l.any (fun q=>q.1==j'&&q.2.1==o')=false ->
      (∀T' cs',loc[j']? = some (T',cs')->∀z,cs'[o']? = some z->z=y)->(Al loc n l)[j']? = some (T,cs)->∀z,cs[o']? = some z->z=y:=by
     intro l;induction l with
     | nil=>intro loc n T cs y _ h0 h1 z hz;exact h0 _ _ h1 z hz
     | cons p r ih=>
      obtain⟨j2,o2,s2⟩:=p;intro loc n T cs y hany h0 h1 z hz;simp only[List.any_cons,Bool.or_eq_false_iff]at hany;simp only[Al]at h1;refine ih _ _ _ _ y hany.2 ?_ h1 z hz;intro T' cs' hl z' hz';unfold Fw at hl;rw[List.getElem?_modify]at hl;by_cases hjj:j2=j'
      ·subst hjj;simp only[if_true]at hl;cases hlo:loc[j2]? with
       | none=>rw[hlo]at hl;cases hl
       | some p=>
        obtain⟨T0,cs0⟩:=p;rw[hlo]at hl;simp only[Option.map_eq_map,Option.map_some]at hl;cases hl
        have ho2:o2≠o':=by
         intro e;subst e;simp at hany
        rw[List.getElem?_set,if_neg ho2]at hz';exact h0 _ _ hlo z' hz'
      ·simp only[hjj,if_false,Option.map_eq_map,Option.map_id']at hl;exact h0 _ _ hl z' hz'
    refine stay r _ _ _ _ _ h2 ?_ h x hx;intro T' cs' hl z hz;unfold Fw at hl;rw[List.getElem?_modify]at hl;simp only[if_true]at hl;cases hlo:loc[j']? with
    | none=>rw[hlo]at hl;cases hl
    | some p=>
     obtain⟨T0,cs0⟩:=p;rw[hlo]at hl;simp only[Option.map_eq_map,Option.map_some]at hl;cases hl
     rw[List.getElem?_set,if_pos rfl]at hz;split at hz
     ·cases hz;rfl
     ·cases hz
   ·refine .inl ?_;simp only[List.any_cons,Bool.or_eq_false_iff];refine⟨?_,h2⟩;cases hc:(j'==j&&o'==o)with
    | false=>rfl
    | true=>simp only[Bool.and_eq_true,beq_iff_eq]at hc;exact absurd hc hq
  ·exact .inr ⟨idx+1,s',by simpa using h1,by rw[h2];simp[Nat.add_comm,Nat.add_left_comm]⟩
theorem OH:∀ {shs:List Sh} {vs:List Value},vs.length=shs.length->(∀(i:Nat) s v,shs[i]? = some s->vs[i]? = some v->coerce s v=v)->jv shs vs
 | [],[],_,_=>trivial
 | s::r,v::vs,hl,h=>⟨h 0 s v rfl rfl,OH (by simpa using hl) fun i s v h1 h2=>h (i+1) s v (by simpa using h1) (by simpa using h2)⟩
 | [],_::_,hl,_=>by simp at hl
 | _::_,[],hl,_=>by simp at hl
theorem QK{p:Plan}{base s:St}{known:List (Ex×Bool)}{d:Nat}{vals:List Ex}(H:Rel s (env++vs) (nums++ms) a L)(hkn:∀e b,(e,b)∈known->Good env nums e (.bool b))
  (hf:p.fits s (p.st base env.length nums.length known d) env.length nums.length=true)(hv:p.vals s=some vals) :
  jv p.shs (vals.map (Ex.ev (env++vs) []))/\Rel (p.st base env.length nums.length known d) (env++vals.map (Ex.ev (env++vs) [])) nums a L:=by
 unfold Plan.fits at hf;simp only[Bool.and_eq_true,beq_iff_eq,decide_eq_true_eq]at hf;obtain⟨⟨⟨⟨⟨f1,f2⟩,f3⟩,f4⟩,f5⟩,f6⟩:=hf;generalize htgt:p.st base env.length nums.length known d=tgt at f1 f2 f3 f5 ⊢;have hv0:=hv;unfold Plan.vals at hv;split at hv
 ·rename_i va vb hva hvb;cases hv
  obtain⟨la,ga⟩:=kL hva;obtain⟨lb,gb⟩:=kL hvb;have slot:∀(idx i:Nat) (sh:Sh),p.gen[idx]? = some (i,sh)->∃u,coerce sh u=u/\(va.map (Ex.ev (env++vs) []))[idx]? = some u/\a.tmps.getD i undef=u:=by
   intro idx i sh hidx;obtain⟨e,he1,he2⟩:=ga idx _ hidx;simp only at he1;split at he1
   ·rename_i e' hs;split at he1
    ·rename_i hc;cases he1
     simp only[Bool.and_eq_true,decide_eq_true_eq]at hc;have hg:=H.vl i [] _ hs (by simp);exact⟨_,Good.sh hg hc.1,by simp[he2,Good.nl hg hc.2],rfl⟩
    ·cases he1
   ·cases he1
  have cell:∀(idx j o:Nat) (sh:Sh),p.cells[idx]? = some (j,o,sh)->∃u,coerce sh u=u/\(vb.map (Ex.ev (env++vs) []))[idx]? = some u /\
    ∀T cs,s.loc[j]? = some (T,cs)->∀(b:Nat) (ws:List Value),ws.length=cs.length->(∀(o:Nat) e,cs[o]? = some (some e)->∃u,ws[o]? = some u/\Good (env++vs) (nums++ms) e u)->ws[o]? = some u:=by
   intro idx j o sh hidx;obtain⟨e,he1,he2⟩:=gb idx _ hidx;simp only at he1;cases hl:s.loc[j]? with
   | none=>rw[hl]at he1;simp at he1
   | some Tc=>
    obtain⟨T,cs⟩:=Tc;rw[hl]at he1;simp only[Option.bind_some]at he1;split at he1
    ·rename_i e' hs;split at he1
     ·rename_i hc;cases he1
      simp only[Bool.and_eq_true,decide_eq_true_eq]at hc;obtain⟨b,ws,b1,b2,b3,b4⟩:=H.bl j T cs hl;obtain⟨u,hu1,hu2⟩:=b4 o _ hs;refine⟨u,hu2.sh hc.1,by simp[he2,hu2.nl hc.2],fun T' cs' h' b' ws' hl' hh=>?_⟩;cases h'
      obtain⟨u',k1,k2⟩:=hh o _ hs;rw[k1,k2.uniq hu2]
     ·cases he1
    ·cases he1
  have lus:((va++vb).map (Ex.ev (env++vs) [])).length=p.gen.length+p.cells.length:=by simp[la,lb]
  have ev1:∀(idx:Nat) u,(va.map (Ex.ev (env++vs) []))[idx]? = some u->((va++vb).map (Ex.ev (env++vs) []))[idx]? = some u:=by
   intro idx u h;have:=(List.getElem?_eq_some_iff.1 h).1;rw[List.map_append,List.getElem?_append_left this];exact h
  have ev2:∀(idx:Nat) u,(vb.map (Ex.ev (env++vs) []))[idx]? = some u->((va++vb).map (Ex.ev (env++vs) []))[p.gen.length+idx]? = some u:=by
   intro idx u h;rw[List.map_append,List.getElem?_append_right (by simp[la]),List.length_map,la,Nat.add_sub_cancel_left];exact h
  generalize hus:(va++vb).map (Ex.ev (env++vs) [])=us at lus ev1 ev2 ⊢;have vgood:∀(idx:Nat) (sh:Sh) u,coerce sh u=u->us[idx]? = some u->Good (env++us) nums (.var sh (env.length+idx)) u:=by
   intro idx sh u hc hu xs ys;have hlt:=(List.getElem?_eq_some_iff.1 hu).1;simp only[Ex.ev,List.append_assoc,List.getD_eq_getElem?_getD];rw[List.getElem?_append_right (by omega),Nat.add_sub_cancel_left,List.getElem?_append_left hlt,hu];simpa using hc
  refine⟨?_,?_⟩
  ·refine OH (by rw[lus];simp[Plan.shs]) fun i sh v h1 h2=>?_
   unfold Plan.shs at h1;rcases Nat.lt_or_ge i p.gen.length with hlt | hge
   ·rw[List.getElem?_append_left (by simpa using hlt),List.getElem?_map]at h1;obtain⟨q,hq,rfl⟩:=Option.map_eq_some_iff.1 h1;obtain⟨u,hu1,hu2,_⟩:=slot i q.1 q.2 hq;have:=ev1 i u hu2;rw[h2]at this;cases this;exact hu1
   ·rw[List.getElem?_append_right (by simpa using hge),List.getElem?_map,List.length_map]at h1;obtain⟨q,hq,rfl⟩:=Option.map_eq_some_iff.1 h1;obtain⟨u,hu1,hu2,_⟩:=cell (i-p.gen.length) q.1 q.2.1 q.2.2 hq;have:=ev2 _ u hu2;rw[show p.gen.length+(i-p.gen.length)=i by omega,h2]at this;cases this;exact hu1
  ·have tn:tgt.n=env.length+p.gen.length+p.cells.length:=by rw[<-htgt];rfl
   have tt:tgt.tmps=CX (G6 base.tmps p.junk) env.length p.gen:=by rw[<-htgt];rfl
   have tl:tgt.loc=Al (G7 (base.loc.take nums.length) p.cjunk) (env.length+p.gen.length) p.cells:=by rw[<-htgt];rfl
   have tk:tgt.known=known:=by rw[<-htgt];rfl
   have key:∀(i:Nat) (v:GV),tgt.tmps[i]? = some v->v=⟨[],.junk⟩\/(∃sh idx u,v=⟨[],.x (.var sh (env.length+idx))⟩/\coerce sh u=u/\us[idx]? = some u/\a.tmps.getD i undef=u) \/
     (Ak env.length nums.length v=true/\s.tmps[i]? = some v):=by
    intro i v hi;have h1:=hi;rw[tt]at h1;rcases GN h1 with⟨_,hn⟩ | ⟨idx,sh,h2,h3⟩
    ·have:=List.all_eq_true.1 f2 (v,i) (List.mem_zipIdx_iff_getElem?.2 hi);simp only[hn,Bool.or_eq_true,beq_iff_eq,Bool.and_eq_true,vK,or_false]at this;rcases this with h | h
     ·exact .inl h
     ·exact .inr (.inr h)
    ·obtain⟨u,hu1,hu2,hu3⟩:=slot idx i sh h2;exact .inr (.inl ⟨sh,idx,u,h3,hu1,ev1 idx u hu2,hu3⟩)
   have down:∀ {e:Ex} {u:Value},Good (env++vs) (nums++ms) e u->e.within env.length nums.length=true->Good (env++us) nums e u:=fun h hw=>(Ep h hw).kA us
   have gvin:∀ {i:Nat} {g:List Ex} {v:SV},Ak env.length nums.length ⟨g,v⟩=true->s.tmps[i]? = some ⟨g,v⟩->∀e∈g,∀c,Good (env++us) nums e (.bool c)->Good (env++vs) (nums++ms) e (.bool c):=by
    intro i g v hw hs e he c hc;obtain⟨b,hb⟩:=H.gd i g v hs e he;unfold Ak at hw;simp only[Bool.and_eq_true]at hw;have:=xr ((down hb (List.all_eq_true.1 hw.1 e he)).uniq hc);subst this;exact hb
   constructor
   ·rw[tn,List.length_append,lus];omega
   ·exact f3
   ·rw[<-f1];exact H.sz
   ·exact fun _=>H.df (by simpa using f6)
   ·intro i g v hi e he;rcases key i _ hi with h1 | ⟨sh,idx,u,h1,_⟩ | ⟨h1,h2⟩
    ·cases h1;cases he
    ·cases h1;cases he
    ·obtain⟨b,hb⟩:=H.gd i g v h2 e he;unfold Ak at h1;simp only[Bool.and_eq_true]at h1;exact⟨b,down hb (List.all_eq_true.1 h1.1 e he)⟩
   ·intro i g v hi hg;rcases key i _ hi with h1 | ⟨sh,idx,u,h1,h2,h3,h4⟩ | ⟨h1,h2⟩
    ·cases h1;trivial
    ·cases h1
     rw[h4];exact vgood idx sh u h2 h3
    ·have hv:=H.vl i g v h2 fun e he=>gvin h1 h2 e he _ (hg e he)
     unfold Ak at h1;simp only[Bool.and_eq_true]at h1;cases v with
     | junk=>trivial
     | x e=>exact down hv h1.2
     | agg cs=>obtain⟨ws,k1,k2⟩:=hv;exact⟨ws,k1,(Dd k2 h1.2).kA us⟩
     | tup cs=>
      obtain⟨ws,k1,k2⟩:=hv;have:=(GM k2 h1.2).ext us [];exact⟨ws,k1,by simpa using this⟩
   ·rintro i g v hi ⟨e,he,hf⟩;rcases key i _ hi with h1 | ⟨sh,idx,u,h1,_⟩ | ⟨h1,h2⟩
    ·cases h1;cases he
    ·cases h1;cases he
    ·exact H.uv i g v h2 ⟨e,he,gvin h1 h2 e he _ hf⟩
   ·intro j T cs hj;have h5:=List.all_eq_true.1 f5 ((T,cs),j) (List.mem_zipIdx_iff_getElem?.2 hj);simp only at h5;split at h5
    ·rename_i c hc;obtain⟨T',c'⟩:=c;simp only[Bool.and_eq_true,beq_iff_eq]at h5;obtain⟨⟨e1,e2⟩,e3⟩:=h5;subst e1;obtain⟨b,ws,b1,b2,b3,b4⟩:=H.bl j T' c' hc;have hjlt:j<nums.length:=by rw[<-f3];exact(List.getElem?_eq_some_iff.1 hj).1
     rw[List.getElem?_append_left hjlt]at b1;refine⟨b,ws,b1,b2,b3.trans e2,fun o e he=>?_⟩;have hj2:=hj;rw[tl]at hj2;rcases GO hj2 o _ he with hn | ⟨idx,sh,k1,k2⟩
     ·have:=List.all_eq_true.1 e3 (some e,o) (List.mem_zipIdx_iff_getElem?.2 he);simp only[hn,Bool.or_eq_true,Bool.and_eq_true,beq_iff_eq,Option.map_some,Option.getD_some,reduceCtorEq,false_or,vK,or_false]at this;obtain⟨u,u1,u2⟩:=b4 o e this.2;exact⟨u,u1,down u2 this.1⟩
     ·cases k2
      obtain⟨u,hu1,hu2,hu3⟩:=cell idx j o sh k1;refine⟨u,hu3 T' c' hc b ws b3 b4,?_⟩;have:=vgood (p.gen.length+idx) sh u hu1 (ev2 idx u hu2);rwa[<-Nat.add_assoc]at this
    ·cases h5
   ·exact(List.nodup_append.1 H.nd).1
   ·intro e b hm;rw[tk]at hm;exact(hkn e b hm).kA us
 ·cases hv
end
end Go.Eng
namespace Go.Eng
open Go
def Hand.Er(Λ:Hand):Prop:=∀l env h A B,KLe A B->Λ l env h A->Λ l env h B
variable {bb:Bool}
section
variable {P:Program}{S:Shared}{cfg:Cfg}{st:St}{env vs us:List Value}{nums ms:List Nat}{a:Act}{L h:Heap}
variable {Λ:Hand}{Q:Value -> Heap -> Prop}{Ks:List Kt}{t t' : Tr}
def Via(P:Program)(S:Shared)(Λ:Hand)(Q:Value->Heap->Prop)(f:Lf->Option Tr):Hand:=fun l env h Ks=>∃u,f l=some u/\u.wp P S Λ Q env h Ks
theorem Via.mono{f:Lf->Option Tr}(hΛ:Λ.Er):(Via P S Λ Q f).Er:=fun _ _ _ _ _ hab ⟨u,h1,h2⟩=>
 ⟨u,h1,u.wp_mono (fun _ _ h=>h) _ _ _ _ hab h2 fun l env h _ _ hxy hh=>hΛ l env h _ _ hxy hh⟩
variable {Post:Frame -> List Frame -> Heap -> Prop}{b:Frame}{k:List Item}{cs:List Frame}
structure Ends(P:Program)(S:Shared)(Post:Frame->List Frame->Heap->Prop)(b:Frame)(cs:List Frame)(Λ:Hand)(Ks:List Kt)(env:List Value)(nums:List Nat)(k:List Item):Prop where
 nrm:∀st' vs ms xs a' L' h',Λ (.norm st') (env++vs) h' (Ks++xs)->Rel st' (env++vs) (nums++ms) a' L'->Ok S h' L'->st'.d=(Ks++xs).length->Safe P S Post (b.at a' k) cs (plus h' L')
 ext:∀id st' vs ms xs a' L' h',Λ (.exit id st') (env++vs) h' (Ks++xs)->Rel st' (env++vs) (nums++ms) a' L'->Ok S h' L'->st'.d=(Ks++xs).length->∃k',exitTo id k=some k'/\Safe P S Post (b.at a' k') cs (plus h' L')
theorem Ends.more(H:Ends P S Post b cs Λ Ks env nums k)(vs:List Value)(ms:List Nat)(xs:List Kt):Ends P S Post b cs Λ (Ks++xs) (env++vs) (nums++ms) k:=by
 constructor
 ·intro st' vs' ms' xs' a' L' h' h1 h2 h3 h4;rw[List.append_assoc,List.append_assoc]at h1;rw[List.append_assoc,List.append_assoc]at h2;rw[List.append_assoc]at h4;exact H.nrm st' _ _ _ a' L' h' h1 h2 h3 h4
 ·intro id st' vs' ms' xs' a' L' h' h1 h2 h3 h4;rw[List.append_assoc,List.append_assoc]at h1;rw[List.append_assoc,List.append_assoc]at h2;rw[List.append_assoc]at h4;exact H.ext id st' _ _ _ a' L' h' h1 h2 h3 h4
theorem IW(hΛ:Λ.Er)(hj:CG st t=some t')(hw:t'.wp P S Λ Q env h Ks)(hn:st.n=env.length)(hl:st.loc.length=nums.length)(hkn:∀e b,(e,b)∈st.known->Good env nums e (.bool b))(hd:st.d=Ks.length)
  (he:Ends P S Post b cs Λ Ks env nums k):∃Λ' K,Hand.Er Λ'/\t.wp P S Λ' Q env h (Ks++[K])/\Ends P S Post b cs Λ' (Ks++[K]) env nums k:=by
 have lift:some (Tr.lift t)=some t'->∃Λ' K,Hand.Er Λ'/\t.wp P S Λ' Q env h (Ks++[K])/\Ends P S Post b cs Λ' (Ks++[K]) env nums k:=by
  intro hh;cases hh
  refine⟨Λ,_,hΛ,hw,?_⟩;have:=he.more [] [] [fun _ _=>False];simpa using this
 unfold CG at hj;split at hj
 ·exact lift hj
 ·exact lift hj
 ·rename_i s r _ hns;simp only[JE]at hj;generalize hp:SQ st (s::r)=p at hj;rw[hn,hl]at hj;generalize htgt:p.st s env.length nums.length st.known st.d=tgt at hj;split at hj
  ·rename_i arms harms;cases hj
   simp only[Tr.wp]at hw;have hw2:=Tr.wp_bind hΛ t arms harms _ _ _ hw;refine⟨_,_,Via.mono hΛ,hw2,?_⟩;have fit:∀st' vs ms xs h' (a':Act) (L':Heap) (K:Kt) (u:Tr),(if p.fits st' tgt env.length nums.length=true then(p.vals st').map (Tr.cont st.d)else none)=some u->u.wp P S Λ Q (env++vs) h' (Ks++[K]++xs) ->
     Rel st' (env++vs) (nums++ms) a' L'->∃us,jv p.shs us/\K us h'/\Rel tgt (env++us) nums a' L':=by
    intro st' vs ms xs h' a' L' K u hu huw H';split at hu
    ·rename_i hfit;obtain⟨vals,hv,rfl⟩:=Option.map_eq_some_iff.1 hu;have hks:(Ks++[K]++xs)[st.d]? = some K:=by
      rw[hd,List.append_assoc,List.getElem?_append_right (Nat.le_refl _)];simp
     simp only[Tr.wp,hks]at huw;subst htgt;obtain⟨x1,x2⟩:=QK H' hkn hfit hv;exact⟨_,x1,huw,x2⟩
    ·cases hu
   constructor
   ·rintro st' vs ms xs a' L' h' ⟨u,hu,huw⟩ H' ha' hd';obtain⟨us,x1,x2,x3⟩:=fit st' vs ms xs h' a' L' _ u hu huw H';have:=he.nrm tgt us [] [] a' L' h' (by simpa using x2 x1) (by simpa using x3) ha' (by subst htgt;simp[Plan.st,hd]);exact this
   ·rintro id st' vs ms xs a' L' h' ⟨u,hu,huw⟩ H' ha' hd';cases hu
    rw[List.append_assoc]at huw hd';exact he.ext id st' vs ms _ a' L' h' huw H' ha' hd'
  ·cases hj
theorem Rel.merge{sa sb s:St}{c:Ex}(hm:HQ c sa sb st=some s)(hc:Good env nums c (.bool bb))(H:Rel (if bb then sa else sb) env nums a L)(hkn:∀e b,(e,b)∈st.known->Good env nums e (.bool b)) :
  Rel s env nums a L/\s.d=st.d:=by
 unfold HQ at hm;split at hm
 ·rename_i hcond;obtain⟨c1,c2,c3,c4,c5,c6⟩:=hcond;split at hm
  ·rename_i tm lc htm hlc;cases hm
   refine⟨?_,rfl⟩;obtain⟨lt,gt⟩:=kL htm;obtain⟨ll,gl⟩:=kL hlc;have hit:∀ {x y:Ex} {u:Value},Good env nums (if bb then x else y) u->Good env nums (.it c x y) u:=by
    intro x y u hg xs ys;simp only[Ex.ev,hc xs ys,toBool];cases bb
    ·simpa using hg xs ys
    ·simpa using hg xs ys
   have lab:sa.tmps.length=(if bb then sa else sb).tmps.length:=by cases bb <;> simp[c6]
   have lsab:sa.loc.length=(if bb then sa else sb).loc.length:=by cases bb <;> simp[c4,c5]
   have key:∀(i:Nat) (v:GV),tm[i]? = some v->v=⟨[],.junk⟩\/(if bb then sa else sb).tmps[i]? = some v\/∃e,v=⟨[],.x e⟩/\Good env nums e (a.tmps.getD i undef):=by
    intro i v hi;have hlt:i<(sa.tmps.zip sb.tmps).length:=by rw[<-lt];exact(List.getElem?_eq_some_iff.1 hi).1
    have hlt2:=hlt;rw[List.length_zip]at hlt2;obtain⟨y,hy1,hy2⟩:=gt i _ (List.getElem?_eq_getElem hlt);rw[hi]at hy2;cases hy2
    rw[List.getElem_zip]at hy1;simp only[QF]at hy1;have e1:sa.tmps[i]? = some sa.tmps[i]:=List.getElem?_eq_getElem (by omega);have e2:sb.tmps[i]? = some sb.tmps[i]:=List.getElem?_eq_getElem (by omega);split at hy1
    ·rename_i heq;cases hy1
     refine .inr (.inl ?_);cases bb
     ·simp only[vK,if_false];rw[e2,heq]
     ·simp only[if_true];rw[e1]
    ·split at hy1
     ·rename_i x y hx hy;split at hy1
      ·cases hy1
       refine .inr (.inr ⟨_,rfl,hit ?_⟩);cases bb with
       | true=>exact H.vl i [] (.x x) (by simp only[if_true];rw[e1,hx]) (by simp)
       | false=>exact H.vl i [] (.x y) (by simp only[vK,if_false];rw[e2,hy]) (by simp)
      ·cases hy1;exact .inl rfl
     ·cases hy1;exact .inl rfl
   constructor
   ·simp only;rw[<-H.n];cases bb <;> simp[c1,c2]
   ·simp only;rw[ll,List.length_zip,<-H.m];cases bb <;> simp[c4,c5]
   ·simp only;rw[lt,List.length_zip,<-H.sz,<-c6,<-lab];simp
   ·intro hdv;simp only[Bool.or_eq_false_iff]at hdv;refine H.df ?_;cases bb <;> simp[hdv.1,hdv.2]
   ·intro i g v hi e he;rcases key i _ hi with h1 | h1 | ⟨x,h1,_⟩
    ·cases h1;cases he
    ·exact H.gd i g v h1 e he
    ·cases h1;cases he
   ·intro i g v hi hg;rcases key i _ hi with h1 | h1 | ⟨x,h1,h2⟩
    ·cases h1;trivial
    ·exact H.vl i g v h1 hg
    ·cases h1;exact h2
   ·rintro i g v hi ⟨e,he,hf⟩;rcases key i _ hi with h1 | h1 | ⟨x,h1,_⟩
    ·cases h1;cases he
    ·exact H.uv i g v h1 ⟨e,he,hf⟩
    ·cases h1;cases he
   ·intro j T cs' hj;simp only at hj;have hlt:j<(sa.loc.zip sb.loc).length:=by rw[<-ll];exact(List.getElem?_eq_some_iff.1 hj).1
    have hlt2:=hlt;rw[List.length_zip]at hlt2;obtain⟨y,hy1,hy2⟩:=gl j _ (List.getElem?_eq_getElem hlt);rw[hj]at hy2;cases hy2
    rw[List.getElem_zip]at hy1;simp only at hy1;split at hy1
    ·rename_i hTl;obtain⟨xs,hxs,hxe⟩:=Option.map_eq_some_iff.1 hy1;cases hxe
     obtain⟨lx,gx⟩:=kL hxs;rw[List.length_zip]at lx;have e1:sa.loc[j]? = some (sa.loc[j].1,sa.loc[j].2):=List.getElem?_eq_getElem (by omega);have e2:sb.loc[j]? = some (sb.loc[j].1,sb.loc[j].2):=List.getElem?_eq_getElem (by omega);obtain⟨ca,hca⟩:∃ca,sa.loc[j]=ca:=⟨_,rfl⟩;obtain⟨cb,hcb⟩:∃cb,sb.loc[j]=cb:=⟨_,rfl⟩;simp only[hca,hcb]at e1 e2 hTl hxs gx lx;obtain⟨Ta,ca⟩:=ca;obtain⟨Tb,cb⟩:=cb;simp only at e1 e2 hTl hxs gx lx;obtain⟨hT,hll⟩:=hTl;have e3:(if bb then sa else sb).loc[j]? = some (Ta,if bb then ca else cb):=by
      cases bb
      ·simp only[vK,if_false];rw[e2,hT]
      ·simp only[if_true];exact e1
     obtain⟨b',ws,b1,b2,b3,b4⟩:=H.bl j _ _ e3;have hlen:(if bb then ca else cb).length=ca.length:=by cases bb <;> simp[hll]
     refine⟨b',ws,b1,by rw[hca];exact b2,by rw[b3,hlen,lx];omega,fun o e he=>?_⟩;have hlo:o<(ca.zip cb).length:=by
      have:=(List.getElem?_eq_some_iff.1 he).1;rw[List.length_zip];omega
     have hlo2:=hlo;rw[List.length_zip]at hlo2;obtain⟨z,hz1,hz2⟩:=gx o _ (List.getElem?_eq_getElem hlo);rw[he]at hz2;cases hz2
     rw[List.getElem_zip]at hz1;simp only[SR]at hz1;have f1:ca[o]? = some ca[o]:=List.getElem?_eq_getElem (by omega);have f2:cb[o]? = some cb[o]:=List.getElem?_eq_getElem (by omega);split at hz1
     ·rename_i heq;have hz1:=Option.some.inj hz1;refine b4 o e ?_;cases bb
      ·simp only[vK,if_false];rw[f2,<-heq,hz1]
      ·simp only[if_true];rw[f1,hz1]
     ·split at hz1
      ·rename_i x y hx hy;split at hz1
       ·cases hz1
        cases bb with
        | true=>
         obtain⟨u,u1,u2⟩:=b4 o x (by simp only[if_true];rw[f1,hx]);exact⟨u,u1,hit u2⟩
        | false=>
         obtain⟨u,u1,u2⟩:=b4 o y (by simp only[vK,if_false];rw[f2,hy]);exact⟨u,u1,hit u2⟩
       ·cases hz1
      ·cases hz1
    ·cases hy1
   ·exact H.nd
   ·exact hkn
  ·cases hm
 ·cases hm
def EI(tmps:Array Value):ResultVar->Sem Value
 | .tmp t=>pure (tmps.getD t undef)
 | .cell a t=>do loadVar t (<-asAddr (tmps.getD a undef))
def EJ:List Value->Value
 | [v]=>v
 | l=>.tuple l.toArray
theorem IB{w:World}{H:Heap}{B:Nat}{K:Value->World->Prop}{t:TypeId}{a:Addr}{desc:TypeDesc}{i:TypeInfo}{vs:List Value}(ht:P.underlying t=some desc)
  (hi:P.info? t=some i)(hl:i.size=vs.length)(hc:∀(j:Nat) v,vs[j]? = some v->(H (a.add j).block≠none\/B<=(a.add j).block)/\w.cell? (a.add j)=some v)
  (hk:if wF desc=true then K (.agg vs.toArray) w else ∃v,vs=[v]/\K v w):wpE P S H B (loadVar t a) w K:=by
 simp only[loadVar,zm,GB ht];split at hk
 ·rename_i ha;simp only[ha,if_true,zm,xf hi,loadCells,hl];refine kE vs 0 #[] (fun j v hv=>by simpa using hc j v hv) _ ?_;simpa[zp]using hk
 ·rename_i ha;obtain⟨v,rfl,h2⟩:=hk;simp only[ha,if_false,vK];obtain⟨h3,h4⟩:=hc 0 v (by simp);exact IT (by simpa[Addr.add]using h3) (by simpa[Addr.add]using h4) _ h2
def V5(P:Program)(S:Shared)(h L:Heap)(tmps:Array Value)(r:ResultVar)(v:Value):Prop:=
 ∀w (K:Value->World->Prop),Has w (plus h L)->K v w->wpE P S (plus h L) w.heap.size (EI tmps r) w K
def j9(env:List Value):List (Bool×List Ex)->List Value->Prop
 | [],[]=>True
 | c::cs,u::us=>(c.2.all (·.within 1000000 0)=true/\j6 env [] c u)/\j9 env cs us
 | _,_=>False
theorem j9.append{env:List Value}:∀ {cs ds:List (Bool×List Ex)} {us ws:List Value},j9 env cs us->j9 env ds ws->j9 env (cs++ds) (us++ws)
 | [],_,[],_,_,h=>h
 | _::_,_,_::_,_,h,k=>⟨h.1,j9.append h.2 k⟩
 | [],_,_::_,_,h,_=>h.elim
 | _::_,_,[],_,h,_=>h.elim
theorem j9.ext{env:List Value}(vs:List Value):∀ {cs:List (Bool×List Ex)} {us:List Value},j9 env cs us->j9 (env++vs) cs us
 | [],[],_=>trivial
 | _::_,_::_,h=>⟨⟨h.1.1,by have:=h.1.2.ext vs [];simpa using this⟩,j9.ext vs h.2⟩
 | [],_::_,h=>h.elim
 | _::_,[],h=>h.elim
theorem F5{e:Ex}{u:Value}{n:Nat}(h:Good env nums e u)(hw:e.within n 0=true):Good env [] e u:=by
 intro xs ys;rw[IQ _ n _ (nums++[]) e hw];exact h xs []
theorem BJ:∀ {es:List Ex} {xs:List Value},zY env nums es xs->es.all (·.within 1000000 0)=true->zY env [] es xs
 | [],[],_,_=>trivial
 | _::_,_::_,h,hw=>by
  simp only[List.all_cons,Bool.and_eq_true]at hw;exact⟨F5 h.1 hw.1,BJ h.2 hw.2⟩
 | [],_::_,h,_=>h.elim
 | _::_,[],h,_=>h.elim
theorem MJ(hT:zJ P cfg.tab)(H:Rel st env nums a L)(ha:Ok S h L){r:ResultVar}{es:List Ex}{ls:List (Ex×List Sh)}(hr:Oo cfg st r=some (bb,es,ls)) :
  (ls=[]/\es.all (·.within 1000000 0)=true/\∃v,j6 env [] (bb,es) v/\V5 P S h L a.tmps r v) \/
  (∃p shs ad,ls=[(p,shs)]/\p.ev env []=.pointer (some ad)/\p.within 1000000 0=true/\(bb=true\/shs.length=1)/\(∀xs,p.ev (env++xs) []=.pointer (some ad))/\∀vs,jv shs vs->zq h ad 0 vs->V5 P S h L a.tmps r (qG bb vs)):=by
 unfold Oo at hr;split at hr
 ·rename_i t;split at hr
  ·rename_i e hs;split at hr
   ·rename_i hw;cases hr
    refine .inl ⟨rfl,by simpa using hw,_,?_,fun w K _ hk=>hk⟩;have:=H.vl t [] _ hs (by simp);exact⟨e,rfl,F5 this hw⟩
   ·cases hr
  ·rename_i cs hs;split at hr
   ·rename_i hw;cases hr
    refine .inl ⟨rfl,hw,_,?_,fun w K _ hk=>hk⟩;obtain⟨us,h1,h2⟩:=H.vl t [] _ hs (by simp);exact⟨us,h1,BJ h2 hw⟩
   ·cases hr
  ·cases hr
 ·rename_i t ty;split at hr
  ·rename_i j d hs hd;split at hr
   ·rename_i T cs hl;split at hr
    ·rename_i hc;split at hr
     ·rename_i xs hxs;split at hr
      ·rename_i hw;cases hr
       obtain⟨b',vs,b1,b2,b3,b4⟩:=H.bl j T cs hl;have hv:=H.vl t [] _ hs (by simp);have hbj:nums.getD j 0=b':=by simp[b1]
       have hptr:a.tmps.getD t undef=.pointer (some ⟨b',0,none⟩):=by
        have:=Good.at hv;simp only[Ex.ev,hbj]at this;exact this.symm
       obtain⟨l1,l2⟩:=kL hxs;have gl:zY env nums es vs:=by
        refine .G9 (by rw[l1,b3]) fun i e he=>?_
        have hi:i<cs.length:=by rw[<-l1];exact(List.getElem?_eq_some_iff.1 he).1
        obtain⟨y,hy1,hy2⟩:=l2 i _ (List.getElem?_eq_getElem hi);rw[he]at hy2;cases hy2
        exact b4 i e (by rw[List.getElem?_eq_getElem hi];simpa using hy1)
       obtain⟨desc,hu,hag⟩:=(zJ.get hT hd).agg;obtain⟨i,hi,hi2,_⟩:=(zJ.get hT hd).i;have hlen:i.size=vs.length:=by rw[hi2,hc.1,b3]
       refine .inl ⟨rfl,hw,qG (kH d.k) vs,?_,?_⟩
       ·unfold j6 qG;by_cases hk:kH d.k=true
        ·simp only[hk,if_true];exact⟨vs,rfl,BJ gl hw⟩
        ·have hone:vs.length=1:=by
          have:=hc.2;simp only[hk,Bool.false_or,beq_iff_eq]at this;rw[<-hlen,hi2];exact this
         have gl2:=BJ gl hw;simp only[hk,vK,if_false]
         match vs,es,gl2,hone with
         | [v],[x],g,_=>exact⟨x,rfl,g.1⟩
       ·intro w K hh hk;simp only[EI,hptr,asAddr,zm,zp];have hwb:w.heap[b']? = some (.cells vs.toArray T):=(hh.right ha.apart) b' _ b2;refine IB hu hi hlen (fun q y hy=>?_) ?_
        ·have ea:(⟨b',0,none⟩:Addr).add q=⟨b',0+q,none⟩:=by
          unfold Addr.add;split
          ·rename_i h0;subst h0;rfl
          ·rfl
         refine⟨.inl ?_,?_⟩
         ·rw[add_block];intro h0;rw[(ye.1 h0).2]at b2;cases b2
         ·rw[ea];simp[World.cell?,hwb,hy]
        ·rw[hag];unfold qG at hk;by_cases hk2:kH d.k=true
         ·simp only[hk2,if_true]at hk ⊢;exact hk
         ·have hone:vs.length=1:=by
           have:=hc.2;simp only[hk2,Bool.false_or,beq_iff_eq]at this;rw[<-hlen,hi2];exact this
          simp only[hk2,vK,if_false]at hk ⊢
          match vs,hone with
          | [v],_=>exact⟨v,rfl,hk⟩
      ·cases hr
     ·cases hr
    ·cases hr
   ·cases hr
  ·rename_i i d hs hd;split at hr
   ·rename_i hc;cases hr
    have hv:=H.vl t [] _ hs (by simp);obtain⟨ad,had⟩:=Good.addr hv rfl;have hv2:Good env [] (.var .addr i) (a.tmps.getD t undef):=F5 (n:=i+1) hv (by simp[Ex.within]);rw[had]at hv2;obtain⟨desc,hu,hag⟩:=(zJ.get hT hd).agg;obtain⟨ie,hi,hi2,_⟩:=(zJ.get hT hd).i;refine .inr ⟨_,_,ad,rfl,hv2.at,by simp[Ex.within];exact hc.2.2,?_,fun xs=>by have:=hv2 xs [];simpa using this,?_⟩
    ·have:=hc.2.1;simp only[Bool.or_eq_true,beq_iff_eq]at this;exact this.imp id fun h=>hc.1.trans h
    ·intro vs hsh zj w K hh hk;simp only[EI,had,asAddr,zm,zp];have hlen:ie.size=vs.length:=by rw[hi2,<-hc.1,k8 hsh]
     refine IB hu hi hlen (fun q y hy=>HV hh (by simpa using AG zj q y hy)) ?_;rw[hag];unfold qG at hk;by_cases hk2:kH d.k=true
     ·simp only[hk2,if_true]at hk ⊢;exact hk
     ·have hone:vs.length=1:=by
       have:=hc.2.1;simp only[hk2,Bool.false_or,beq_iff_eq]at this;rw[<-hlen,hi2];exact this
      simp only[hk2,vK,if_false]at hk ⊢
      match vs,hone with
      | [v],_=>exact⟨v,rfl,hk⟩
   ·cases hr
  ·cases hr
end
end Go.Eng
namespace Go.Eng
open Go
variable {fn:Func}
section
variable {P:Program}{S:Shared}{cfg:Cfg}{st:St}{env vs us:List Value}{nums ms:List Nat}{a:Act}{L h:Heap}
variable {Λ:Hand}{Q:Value -> Heap -> Prop}{Ks:List Kt}{t t' : Tr}
def RsW(P:Program)(S:Shared)(h L:Heap)(tmps:Array Value):List ResultVar->List Value->Prop
 | [],[]=>True
 | r::rs,v::vs=>V5 P S h L tmps r v/\RsW P S h L tmps rs vs
 | _,_=>False
theorem j9.rev{env:List Value}:∀ {cs:List (Bool×List Ex)} {us:List Value},j9 env cs us->j9 env cs.reverse us.reverse
 | [],[],_=>trivial
 | c::cs,u::us,h=>by
  rw[List.reverse_cons,List.reverse_cons];exact(j9.rev h.2).append ⟨h.1,trivial⟩
 | [],_::_,h=>h.elim
 | _::_,[],h=>h.elim
theorem Tp{env:List Value}{c:Bool×List Ex}{u:Value}(g:j6 env [] c u):IU env c=u:=by
 unfold j6 at g;unfold IU;split at g
 ·rename_i hc;obtain⟨vs,rfl,h2⟩:=g;rw[if_pos hc,h2.map]
 ·rename_i hc;obtain⟨e,h1,h2⟩:=g;rw[if_neg hc,h1];exact h2.at
theorem j9.den{env:List Value}:∀ {cs:List (Bool×List Ex)} {us:List Value},j9 env cs us->cs.map (IU env)=us
 | [],[],_=>rfl
 | _::_,_::_,h=>by simp[Tp h.1.2,j9.den h.2]
 | [],_::_,h=>h.elim
 | _::_,[],h=>h.elim
theorem IX(hT:zJ P cfg.tab)(H:Rel st env nums a L)(ha:Ok S h L):∀(rs:List ResultVar) (n:Nat) (acc:List (Bool×List Ex)) (accV:List Value) (t:Tr) (xs:List Value),HP cfg st n rs acc=some t->n=(env++xs).length ->
  j9 (env++xs) acc accV->t.wp P S Λ Q (env++xs) h Ks->∃vs,RsW P S h L a.tmps rs vs/\Q (EJ (accV.reverse++vs)) h
 | [],n,acc,accV,t,xs,ht,hn,hg,hw=>by
  refine⟨[],trivial,?_⟩;rw[vJ];have gr:=hg.rev;simp only[HP]at ht;have hden:=gr.den;split at ht
  ·rename_i cs he;cases ht
   rw[he]at hden;simp only[vD,vE]at hden;rw[<-hden];exact hw
  ·rename_i c he;cases ht
   rw[he]at hden;simp only[vD,vE]at hden;rw[<-hden];exact hw
  ·split at ht
   ·cases ht
   ·rename_i hne;cases ht
    have hl:accV.reverse.length≠1:=by
     have:acc.reverse.length=accV.reverse.length:=by rw[<-hden];simp
     omega
    have hf:EJ accV.reverse=.tuple accV.reverse.toArray:=by
     unfold EJ;split
     ·rename_i v he;rw[he]at hl;simp at hl
     ·rfl
    rw[hf,<-hden];exact hw
 | r::rs,n,acc,accV,t,xs,ht,hn,hg,hw=>by
  simp only[HP]at ht;split at ht
  ·rename_i bb es hr;rcases MJ hT H ha hr with⟨_,h2,v,h3,h4⟩ | ⟨p,shs,ad,h1,_⟩
   ·have g3:j6 (env++xs) [] (bb,es) v:=by have:=h3.ext xs [];simpa using this
    obtain⟨vs,x1,x2⟩:=IX hT H ha rs n ((bb,es)::acc) (v::accV) t xs ht hn ⟨⟨h2,g3⟩,hg⟩ hw;exact⟨v::vs,⟨h4,x1⟩,by simpa using x2⟩
   ·cases h1
  ·rename_i bb es p shs rest hr;split at ht
   ·rename_i hbig;obtain⟨t',ht',rfl⟩:=Option.map_eq_some_iff.1 ht;rcases MJ hT H ha hr with⟨h1,_⟩ | ⟨p',shs',ad,h1,h2,h3,h4,h5,h6⟩
    ·cases h1
    ·cases h1
     obtain⟨ws,k1,k2,k3⟩:=(ky _ _).1 hw;rw[h5 xs]at k2;have hlw:=k8 k1;rw[List.append_assoc]at k3;have gv:zY (env++(xs++ws)) [] (zi n shs) ws:=by
      rw[hn,<-List.append_assoc];exact qQ _ _ k1
     have gc:j6 (env++(xs++ws)) [] (bb,zi n shs) (qG bb ws):=by
      unfold j6 qG;cases bb with
      | true=>simp only[if_true];exact⟨ws,rfl,gv⟩
      | false=>
       simp only[vK,if_false,false_or]at h4 ⊢
       match shs,h4,ws,gv with
       | [s],_,[w],g=>exact⟨_,rfl,g.1⟩
     have hwi:(zi n shs).all (·.within 1000000 0)=true:=List.all_eq_true.2 fun e he=>by
      obtain⟨s,i,rfl,hi⟩:=En e he;simp[Ex.within];omega
     have hg2:j9 (env++(xs++ws)) acc accV:=by have:=hg.ext ws;rwa[List.append_assoc]at this
     obtain⟨vs,x1,x2⟩:=IX hT H ha rs _ _ (qG bb ws::accV) t' (xs++ws) ht' (by rw[hn];simp[hlw,Nat.add_assoc]) ⟨⟨hwi,gc⟩,hg2⟩ k3;exact⟨qG bb ws::vs,⟨h6 ws k1 k2,x1⟩,by simpa using x2⟩
   ·cases ht
  ·cases ht
theorem Qu{tmps:Array Value}{vs:List Value}(H:RsW P S h L tmps fn.results.toList vs){w:World}(hw:Has w (plus h L)) :
  wpE P S (plus h L) w.heap.size (Go.results fn tmps) w (fun x w'=>x=EJ vs/\w'=w):=by
 have e:Go.results fn tmps=(fn.results.mapM (EI tmps) >>= fun vs=>pure (if h:vs.size=1 then vs[0]else .tuple vs)):=by
  unfold Go.results;congr 1
 rw[e,zm,Array.mapM_eq_mapM_toList];show wpE P S (plus h L) w.heap.size (List.mapM (EI tmps) fn.results.toList >>= fun a=>pure a.toArray) w _;rw[zm];have go:∀(rs:List ResultVar) (vs:List Value),RsW P S h L tmps rs vs->∀K:List Value->World->Prop,K vs w->wpE P S (plus h L) w.heap.size (List.mapM (EI tmps) rs) w K:=by
  intro rs;induction rs with
  | nil=>intro vs H K hk;cases vs with
   | nil=>simpa[zp]using hk
   | cons _ _=>exact H.elim
  | cons r rs ih=>
   intro vs H K hk;cases vs with
   | nil=>exact H.elim
   | cons v vs=>
    rw[List.mapM_cons];simp only[zm];refine H.1 w _ hw ?_;refine ih vs H.2 _ ?_;simpa[zp]using hk
 refine go _ vs H _ ?_;rw[zp,zp];refine⟨?_,rfl⟩
 match vs with
 | []=>rfl
 | [v]=>rfl
 | _::_::_=>simp[EJ]
variable {b:Frame}{k:List Item}{cs:List Frame}{f:FuncId}
theorem QL(hT:zJ P cfg.tab)(zt:b.kind=.normal)(hfn:b.fn=f)(hf:P.funcs[f]? = some fn)(hres:fn.results.toList=cfg.results)(ht:RL cfg st=some t)(hw:t.wp P S Λ Q env h Ks)
  (H:Rel st env nums a L)(ha:Ok S h L):Safe P S (xQ P S f Q cs) { b.at a k with mode:=.returning } cs (plus h L):=by
 unfold RL at ht;split at ht
 ·cases ht
 rename_i hdv;obtain⟨vs,h1,h2⟩:=IX (Λ:=Λ) (Q:=Q) (Ks:=Ks) hT H ha cfg.results st.n [] [] t [] ht (by simp[H.n]) trivial (by simpa using hw);refine .done ⟨rfl,hfn,EJ vs,h,by simpa using h2,fun x o hx=>by simp[plus,hx],ha.inv,rfl,H.df (by simpa using hdv),zt,fn,by show P.funcs[b.fn]? = _;rw[hfn];exact hf,fun w hw=>?_⟩;exact Qu (by rw[hres];exact h1) hw
theorem Tq(hT:zJ P cfg.tab)(hm:P.follows .mixedOrders=true)(zt:b.kind=.normal)(hfn:b.fn=f)(hf:P.funcs[f]? = some fn)(hres:fn.results.toList=cfg.results)(c:Code) :
  ∀(st:St) (t:Tr) (Λ:Hand) (env:List Value) (nums:List Nat) (a:Act) (L h:Heap) (Ks:List Kt) (k:List Item),sxC cfg c st=some t->Λ.Er->Rel st env nums a L->Ok S h L->st.d=Ks.length->t.wp P S Λ Q env h Ks ->
   Ends P S (xQ P S f Q cs) b cs Λ Ks env nums k->Safe P S (xQ P S f Q cs) (b.at a (.code c::k)) cs (plus h L):=by
 have hup:Up S (xQ P S f Q cs):=xQ.up;have now:∀ {st:St} {Λ:Hand} {env:List Value} {nums:List Nat} {a:Act} {L h:Heap} {Ks:List Kt} {k:List Item},Ends P S (xQ P S f Q cs) b cs Λ Ks env nums k->Λ (.norm st) env h Ks->Rel st env nums a L->Ok S h L->st.d=Ks.length ->
   Safe P S (xQ P S f Q cs) (b.at a k) cs (plus h L):=by
  intro st Λ env nums a L h Ks k he hl H ha hd;exact he.nrm st [] [] [] a L h (by simpa using hl) (by simpa using H) ha (by simpa using hd)
 induction c with
 | skip=>
  intro st t Λ env nums a L h Ks k ht hΛ H ha hd hw he;simp only[sxC]at ht;cases ht
  exact .skip (now he hw H ha hd)
 | label l=>
  intro st t Λ env nums a L h Ks k ht hΛ H ha hd hw he;simp only[sxC]at ht;cases ht
  exact .label (now he hw H ha hd)
 | region id ops draw=>
  intro st t Λ env nums a L h Ks k ht hΛ H ha hd hw he;have fin:∀ {Λ:Hand} {st:St} {Ks:List Kt},st.d=Ks.length->Ends P S (xQ P S f Q cs) b cs Λ Ks env nums k->Fin S Λ Ks env nums st.d fun a' L' h'=>Safe P S (xQ P S f Q cs) (b.at a' k) cs (plus h' L'):=by
   intro Λ st Ks hd he st' vs ms a' L' h' h1 h2 h3 h4;exact he.nrm st' vs ms [] a' L' h' (by simpa using h1) h2 h3 (by simp[h4,hd])
  simp only[sxC]at ht;split at ht
  ·split at ht
   ·rename_i t2 ht2;obtain⟨Λ',K,hΛ',hw',he'⟩:=IW hΛ ht hw H.n H.m H.kn hd he;exact GL hT hm hup ht2 hw' (H.level _) ha (fin (by simp[hd]) he')
   ·cases ht
  split at ht
  ·rename_i t1 ht1;have plain:∀ {t},sxR cfg ops draw st=some t->t.wp P S Λ Q env h Ks->Safe P S (xQ P S f Q cs) (b.at a (.code (.region id ops draw)::k)) cs (plus h L):=
    fun ht hw=>GL hT hm hup ht hw H ha (fin hd he)
   split at ht
   ·cases ht;exact plain ht1 hw
   ·cases ht;exact plain ht1 hw
   ·split at ht
    ·rename_i t2 ht2;obtain⟨Λ',K,hΛ',hw',he'⟩:=IW hΛ ht hw H.n H.m H.kn hd he;exact GL hT hm hup ht2 hw' (H.level _) ha (fin (by simp[hd]) he')
    ·cases ht
  ·cases ht
 | seq x y ihx ihy=>
  intro st t Λ env nums a L h Ks k ht hΛ H ha hd hw he;simp only[sxC]at ht;split at ht
  ·rename_i t1 ht1;have hw1:=Tr.wp_bind hΛ t1 t ht env h Ks hw;refine .seq (ihx st t1 _ env nums a L h Ks _ ht1 (Via.mono hΛ) H ha hd hw1 ⟨?_,?_⟩)
   ·rintro st' vs ms xs a' L' h' ⟨u,hu,huw⟩ H' ha' hd';cases hy:sxC cfg y st' with
    | some u'=>
     simp only[hy,Option.getD_some,Option.some.injEq]at hu;subst hu;exact ihy st' _ Λ _ _ a' L' h' _ k hy hΛ H' ha' hd' huw (he.more vs ms xs)
    | none=>
     simp only[hy,Option.getD_none,Option.some.injEq]at hu;subst hu;exact absurd huw.1 (by simp[Ex.ev,Cst.val,toBool])
   ·rintro id st' vs ms xs a' L' h' ⟨u,hu,huw⟩ H' ha' hd';cases hu
    obtain⟨k',h1,h2⟩:=he.ext id st' vs ms xs a' L' h' huw H' ha' hd';exact⟨k',by simpa[exitTo]using h1,h2⟩
  ·cases ht
 | cond c x y ihx ihy=>
  intro st t Λ env nums a L h Ks k ht hΛ H ha hd hw he;simp only[sxC]at ht;split at ht
  ·rename_i e hce;have g:=x9 H (by simp) hce;split at ht
   ·cases ht
   ·rename_i hb;simp only[Bool.not_eq_true',Bool.not_eq_false]at hb;obtain⟨bb,hcb⟩:=g.bool hb;rw[hcb]at g;refine .cond hcb ?_;split at ht
    ·rename_i hk;have:=xr (g.uniq (k6 H ⟨_,g⟩ hk));subst this;exact ihx st t Λ env nums a L h Ks k ht hΛ H ha hd hw he
    ·rename_i hk;have:=xr (g.uniq (k6 H ⟨_,g⟩ hk));subst this;exact ihy st t Λ env nums a L h Ks k ht hΛ H ha hd hw he
    ·split at ht
     ·cases ht
     ·rename_i hwi;simp only[Bool.not_eq_true',Bool.not_eq_false]at hwi;have gnl:=g.nl hwi;have joined:∀ {ta tb:Tr},(sxC cfg x { st.qb e true with d:=st.d+1 }=some ta\/ta=JF)->(sxC cfg y { st.qb e false with d:=st.d+1 }=some tb\/tb=JF)->CG st (.br e ta tb)=some t ->
        Safe P S (xQ P S f Q cs) (b.at a (.code (if bb=true then x else y)::k)) cs (plus h L):=by
       intro ta tb hta htb hj;obtain⟨Λ',K,hΛ',hw',he'⟩:=IW hΛ hj hw H.n H.m H.kn hd he;obtain⟨w1,w2⟩:=hw';rw[gnl]at w1 w2;cases bb with
       | true=>
        rcases hta with hta | rfl
        ·exact ihx _ ta Λ' env nums a L h _ k hta hΛ' ((H.qb g).level _) ha (by simp[hd]) (w1 rfl) he'
        ·exact absurd (w1 rfl).1 (by simp[Ex.ev,Cst.val,toBool])
       | false=>
        rcases htb with htb | rfl
        ·exact ihy _ tb Λ' env nums a L h _ k htb hΛ' ((H.qb g).level _) ha (by simp[hd]) (w2 rfl) he'
        ·exact absurd (w2 rfl).1 (by simp[Ex.ev,Cst.val,toBool])
      split at ht
      ·rename_i sa sb hta htb;split at ht
       ·rename_i s hs;cases ht
        have hlen:∀s':St,(s'=sa\/s'=sb)->s'.loc.length=st.loc.length:=by
         intro s' hs';unfold HQ at hs;split at hs
         ·rename_i hc;rcases hs' with rfl | rfl
          ·exact hc.2.2.2.1
          ·exact hc.2.2.2.2.1
         ·cases hs
        have go:∀(s':St),(s'=if bb=true then sa else sb)->Ends P S (xQ P S f Q cs) b cs (fun l env' h' _=>l=.norm s'/\env'=env/\h'=h) (Ks++[fun _ _=>False]) env nums k:=by
         intro s' hs';constructor
         ·rintro st' vs ms xs a' L' h' ⟨h1,h2,h3⟩ H' ha' hd';cases h1
          subst h3;have hv:vs=[]:=by simpa using h2
          subst hv;have hl:ms=[]:=by
           have:=H'.m;rw[hlen s' (by rw[hs'];cases bb <;> simp),H.m]at this;simpa using this
          subst hl;simp only[vJ]at H';obtain⟨R,hd2⟩:=Rel.merge hs g (by rw[<-hs'];exact H') H.kn;exact now he hw R ha' (by rw[hd2];exact hd)
         ·rintro id st' vs ms xs a' L' h' ⟨h1,_⟩;cases h1
        have mono:∀s':St,Hand.Er (fun l env' h' _=>l=Lf.norm s'/\env'=env/\h'=h):=fun s' l env h A B _ hh=>hh
        cases bb with
        | true=>exact ihx _ _ _ env nums a L h (Ks++[fun _ _=>False]) k hta (mono sa) ((H.qb g).level _) ha (by simp[hd]) ⟨rfl,rfl,rfl⟩ (go sa rfl)
        | false=>exact ihy _ _ _ env nums a L h (Ks++[fun _ _=>False]) k htb (mono sb) ((H.qb g).level _) ha (by simp[hd]) ⟨rfl,rfl,rfl⟩ (go sb rfl)
       ·exact joined (.inl hta) (.inl htb) ht
      ·rename_i ta tb _ hta htb;exact joined (.inl hta) (.inl htb) ht
      ·rename_i ta hta htb;exact joined (.inl hta) (.inr rfl) ht
      ·rename_i tb hta htb;exact joined (.inr rfl) (.inl htb) ht
      ·cases ht
  ·cases ht
 | block id c ih=>
  intro st t Λ env nums a L h Ks k ht hΛ H ha hd hw he;simp only[sxC]at ht;split at ht
  ·rename_i t1 ht1;have hw1:=Tr.wp_bind hΛ t1 t ht env h Ks hw;refine .block (ih st t1 _ env nums a L h Ks _ ht1 (Via.mono hΛ) H ha hd hw1 ⟨?_,?_⟩)
   ·rintro st' vs ms xs a' L' h' ⟨u,hu,huw⟩ H' ha' hd';cases hu
    exact .inBlock (he.nrm st' vs ms xs a' L' h' huw H' ha' hd')
   ·rintro id' st' vs ms xs a' L' h' ⟨u,hu,huw⟩ H' ha' hd';simp only at hu;cases hu
    by_cases hid:id'=id
    ·rw[if_pos hid]at huw;exact⟨k,by simp[exitTo,hid],he.nrm st' vs ms xs a' L' h' huw H' ha' hd'⟩
    ·rw[if_neg hid]at huw;obtain⟨k',h1,h2⟩:=he.ext id' st' vs ms xs a' L' h' huw H' ha' hd';exact⟨k',by simpa[exitTo,Ne.symm hid]using h1,h2⟩
  ·cases ht
 | loop c ih=>
  intro st t Λ env nums a L h Ks k ht hΛ H ha hd hw he;simp only[sxC]at ht;split at ht
  ·cases ht
  ·rename_i hi hfind;split at ht
   ·rename_i gs cs' hgs hcs;generalize hp:({ gen:=gs,cells:=cs',junk:=hi.junk,cjunk:=[] }:Plan)=p at ht;rw[H.n,H.m]at ht;generalize htgt:p.st st env.length nums.length st.known (st.d+1)=tgt at ht;split at ht
    ·cases ht
    ·rename_i init hinit;split at ht
     ·cases ht
     ·rename_i hfit;simp only[Bool.not_eq_true',Bool.not_eq_false]at hfit;split at ht
      ·cases ht
      ·rename_i t1 ht1;split at ht
       ·rename_i body hbody;cases ht
        obtain⟨I,μ,w1,w2⟩:=hw;rw[BS]at w2;have fits0:∀ {s:St} {vs:List Value} {ms:List Nat} {a':Act} {L':Heap} {vals:List Ex},Rel s (env++vs) (nums++ms) a' L'->p.fits s tgt env.length nums.length=true->p.vals s=some vals ->
          jv p.shs (vals.map (Ex.ev (env++vs) []))/\Rel tgt (env++vals.map (Ex.ev (env++vs) [])) nums a' L':=by
         intro s vs ms a' L' vals H' hf' hv';subst htgt;exact QK H' H.kn hf' hv'
        have tgtd:tgt.d=Ks.length+1:=by subst htgt;simp[Plan.st,hd]
        have key:∀(n:Nat) (vs:List Value) (h':Heap) (a':Act) (L':Heap),μ vs h'=n->jv p.shs vs->I vs h'->Rel tgt (env++vs) nums a' L'->Ok S h' L' ->
          Safe P S (xQ P S f Q cs) (b.at a' (.code c::.inLoop c::k)) cs (plus h' L'):=by
         intro n;induction n using Nat.strongRecOn with
         | _ n ihn=>
          intro vs h' a' L' hμ hsh hI H' ha';have w3:=Tr.wp_bind hΛ t1 body hbody _ _ _ (w2 vs hsh h' hI);refine ih tgt t1 _ (env++vs) nums a' L' h' _ _ ht1 (Via.mono hΛ) H' ha' (by simp[tgtd]) w3 ⟨?_,?_⟩
          ·rintro st' vs' ms xs a2 L2 h2 ⟨u,hu,huw⟩ H2 ha2 hd2;simp only at hu;split at hu
           ·rename_i hf2;obtain⟨vals,hv,rfl⟩:=Option.map_eq_some_iff.1 hu;rw[List.append_assoc]at H2 huw;obtain⟨x1,x2⟩:=fits0 H2 hf2 hv;have hks:∀K:Kt,(Ks++[K]++xs)[st.d]? = some K:=fun K=>by
             rw[hd,List.append_assoc,List.getElem?_append_right (Nat.le_refl _)];simp
            simp only[Tr.wp,hks]at huw;obtain⟨y1,y2⟩:=huw;exact .inLoop (ihn _ (by rw[<-hμ];exact y2) _ h2 a2 L2 rfl x1 y1 x2 ha2)
           ·cases hu
          ·rintro id st' vs' ms xs a2 L2 h2 ⟨u,hu,huw⟩ H2 ha2 hd2;cases hu
           rw[List.append_assoc]at huw H2;rw[List.append_assoc]at huw hd2;obtain⟨k',z1,z2⟩:=he.ext id st' (vs++vs') ms _ a2 L2 h2 huw H2 ha2 hd2;exact⟨k',by simpa[exitTo]using z1,z2⟩
        obtain⟨x1,x2⟩:=fits0 (s:=st) (vs:=[]) (ms:=[]) (by simpa using H) hfit hinit;simp only[vJ]at x1 x2;exact .loop (key _ _ h a L rfl x1 w1 x2 ha)
       ·cases ht
   ·cases ht
 | exit id=>
  intro st t Λ env nums a L h Ks k ht hΛ H ha hd hw he;simp only[sxC]at ht;cases ht
  obtain⟨k',h1,h2⟩:=he.ext id st [] [] [] a L h (by simpa[Tr.wp]using hw) (by simpa using H) ha (by simpa using hd);exact .exit h1 h2
 | scope c ih=>
  intro st t Λ env nums a L h Ks k ht hΛ H ha hd hw he;simp only[sxC]at ht;refine .scope (ih st t Λ env nums a L h Ks _ ht hΛ H ha hd hw ⟨?_,?_⟩)
  ·intro st' vs ms xs a' L' h' h1 h2 h3 h4;exact .inScope (he.nrm st' vs ms xs a' L' h' h1 h2 h3 h4)
  ·intro id st' vs ms xs a' L' h' h1 h2 h3 h4;obtain⟨k',z1,z2⟩:=he.ext id st' vs ms xs a' L' h' h1 h2 h3 h4;exact⟨k',by simpa[exitTo]using z1,z2⟩
 | ret=>
  intro st t Λ env nums a L h Ks k ht hΛ H ha hd hw he;simp only[sxC]at ht;exact .ret (QL hT zt hfn hf hres ht hw H ha)
 | _=>
  intro st t Λ env nums a L h Ks k ht;simp only[sxC]at ht;cases ht
end
end Go.Eng
namespace Go.Eng
open Go
def yb:Hand:=fun _ _ _ _=>False
theorem Es:yb.Er:=fun _ _ _ _ _ _ h=>h
section
variable {P:Program}{S:Shared}{cfg:Cfg}{h:Heap}{Q:Value -> Heap -> Prop}{t:Tr}{f:FuncId}{fn:Func}
def jH(ps:List (Bool×List Sh))(vs:List Value):Array Value:=((zk 0 ps).map (IU vs)).toArray
theorem YW(hT:zJ P cfg.tab)(hm:P.follows .mixedOrders=true)(hf:P.funcs[f]? = some fn)(hres:fn.results.toList=cfg.results){ps:List (Bool×List Sh)}(ht:sxF cfg fn ps=some t)
  (hent:∀(as:Array Value) (w:World),(callFunc f as).runT P w #[]=(.ok (.enter f as) w,#[]))(hps:ps.all (fun r=>r.1||r.2.length==1)=true){vs:List Value}(hsh:jv (zn ps) vs)(hi:Inv S h)
  (hw:t.wp P S yb Q vs h []):zb P S f (jH ps vs) h Q:=by
 refine .inl ⟨hent,fun cs=>?_⟩;unfold sxF at ht;simp only at ht;split at ht
 ·cases ht
 ·rename_i c hbody;split at ht
  ·cases ht
  ·rename_i t1 ht1;have hw1:=Tr.wp_bind Es t1 t ht _ _ _ hw;have ha:Ok S h (fun _=>none):=⟨fun b hb=>absurd rfl hb,hi⟩;have g:=Dc ([]:List Value) [] [] hsh hps;simp only[vH,List.length_nil]at g;have hlen:(jH ps vs).size=(zk 0 ps).length:=by simp[jH]
   have hent2:Frame.enter P f (jH ps vs) .normal=(Frame.enter P f (jH ps vs) .normal).at { tmps:=jH ps vs++Array.replicate (fn.ntmps-(jH ps vs).size) undef,defers:=[] } [.code c]:=by
    simp[Frame.enter,Frame.at,hf,hbody]
   rw[hent2];have e0:plus h (fun _=>none)=h:=xK h;rw[<-e0];refine Tq (Q:=Q) (b:=Frame.enter P f (jH ps vs) .normal) (f:=f) hT hm rfl rfl hf hres c _ t1 _ vs [] _ _ h [] [] ht1 (Via.mono Es) ?_ ha rfl hw1 ⟨?_,?_⟩
   ·refine⟨?_,rfl,?_,fun _=>rfl,?_,?_,?_,?_,by simp,by simp⟩
    ·exact(k8 hsh).symm
    ·simp[hlen]
    ·intro i gg v hi e he;simp only at hi;rcases Nat.lt_or_ge i (zk 0 ps).length with hlt | hge
     ·rw[List.getElem?_append_left (by simpa using hlt),List.getElem?_map]at hi;obtain⟨q,_,hq⟩:=Option.map_eq_some_iff.1 hi;cases hq;cases he
     ·rw[List.getElem?_append_right (by simpa using hge)]at hi;have:=List.getElem?_replicate (n:=_) (a:=(⟨[],.junk⟩:GV))▸hi;split at this <;> cases this
      cases he
    ·intro i gg v hi hg;simp only at hi ⊢;rcases Nat.lt_or_ge i (zk 0 ps).length with hlt | hge
     ·rw[List.getElem?_append_left (by simpa using hlt),List.getElem?_map]at hi;obtain⟨q,hq,hq2⟩:=Option.map_eq_some_iff.1 hi;obtain⟨u,hu,gu⟩:=g.get i q hq;have hav:(jH ps vs++Array.replicate (fn.ntmps-(jH ps vs).size) undef).getD i undef=u:=by
       have:(jH ps vs)[i]? = some u:=by simpa[jH]using hu
       simp only[Array.getD_eq_getD_getElem?];rw[Array.getElem?_append_left (by rw[hlen];exact hlt),this];rfl
      rw[hav];cases hq2
      unfold j6 at gu;obtain⟨b1,es⟩:=q;simp only at gu ⊢;split at gu
      ·rename_i hb;rw[if_pos hb];exact gu
      ·rename_i hb;rw[if_neg hb];obtain⟨e,rfl,ge⟩:=gu;exact ge
     ·rw[List.getElem?_append_right (by simpa using hge)]at hi;have:=List.getElem?_replicate (n:=_) (a:=(⟨[],.junk⟩:GV))▸hi;split at this <;> cases this
      trivial
    ·rintro i gg v hi ⟨e,he,_⟩;simp only at hi;rcases Nat.lt_or_ge i (zk 0 ps).length with hlt | hge
     ·rw[List.getElem?_append_left (by simpa using hlt),List.getElem?_map]at hi;obtain⟨q,_,hq⟩:=Option.map_eq_some_iff.1 hi;cases hq;cases he
     ·rw[List.getElem?_append_right (by simpa using hge)]at hi;have:=List.getElem?_replicate (n:=_) (a:=(⟨[],.junk⟩:GV))▸hi;split at this <;> cases this
      cases he
    ·intro j T cs hj;simp at hj
   ·rintro st' vs' ms xs a' L' h' ⟨u,hu,huw⟩ H' ha' hd';exact .zaL (QL hT rfl rfl hf hres hu huw H' ha')
   ·rintro id st' vs' ms xs a' L' h' ⟨u,hu,huw⟩;cases hu
def kF(w:World):Heap:=fun b=>w.heap[b]?
def old(w:World):Shared:=⟨fun b=>b<w.heap.size,fun _ _ _ _=>False⟩
theorem MK(w:World):Has w (kF w):=fun _ _ h=>h
theorem XD(w:World):Inv (old w) (kF w):=fun b hb hn=>by
 have:w.heap[b]? = none:=hn;rw[Array.getElem?_eq_none_iff]at this;exact absurd (show b<w.heap.size from hb) (by omega)
end
end Go.Eng
namespace Go.Eng
open Go
def CL:List Value->List Cst->Bool
 | [],[]=>true
 | v::vs,c::cs=>(match Cst.of v with | some d=>d==c | none=>false)&&CL vs cs
 | _,_=>false
theorem JR:∀ {vs:List Value} {cs:List Cst},CL vs cs=true->vs=cs.map Cst.val
 | [],[],_=>rfl
 | v::vs,c::cs,h=>by
  simp only[CL,Bool.and_eq_true]at h;obtain⟨h1,h2⟩:=h;split at h1
  ·rename_i d hd;have:d=c:=by simpa using h1
   subst this;rw[vD,Cst.SS hd,JR h2]
  ·cases h1
 | [],_::_,h=>by simp[CL]at h
 | _::_,[],h=>by simp[CL]at h
def V6(desc:TypeDesc)(k:TyK):Bool:=
 match k,desc with
 | .int k,.int k'=>k==k'
 | .bool,.bool=>true
 | .st fs,.struct F=>F.toList.map (fun f=>(f.offset,f.type))==fs
 | .arr n e,.array n' e'=>n==n'&&e==e'
 | .sl e,.slice e'=>e==e'
 | .ptr e,.pointer e'=>e==e'
 | .ifc,.interface _=>true
 | .fnk,.func _ _ _=>true
 | .str,.string=>true
 | .oth,desc => !wF desc
 | _,_=>false
theorem XE{desc:TypeDesc}{k:TyK}(h:V6 desc k=true):jN desc k:=by
 unfold V6 at h;split at h
 ·simp at h;subst h;rfl
 ·rfl
 ·rename_i fs F;exact⟨F,rfl,by simpa using h⟩
 ·simp at h;obtain⟨rfl,rfl⟩:=h;rfl
 ·simp at h;subst h;rfl
 ·simp at h;subst h;rfl
 ·exact⟨_,rfl⟩
 ·exact⟨_,_,_,rfl⟩
 ·rfl
 ·simpa[jN]using h
 ·cases h
def Sa(P:Program)(t:TypeId)(d:TyD):Bool:=
 (match P.underlying t with | some desc=>V6 desc d.k | none=>false) &&
 (match P.info? t with
  | some i=>i.size==d.sz&&i.bytes==d.byt&&(match d.z with
   | none=>true
   | some z=>match i.zero with | some v=>CL v.cells.toList (jF z) | none=>false)
  | none=>false)
variable {P:Program}{t:TypeId}{d:TyD}
theorem V7(h:Sa P t d=true):Agr P t d:=by
 unfold Sa at h;rw[Bool.and_eq_true]at h;obtain⟨h1,h2⟩:=h;constructor
 ·split at h1
  ·rename_i desc hd;exact⟨desc,hd,XE h1⟩
  ·cases h1
 ·split at h2
  ·rename_i i hi;simp only[Bool.and_eq_true,beq_iff_eq]at h2;obtain⟨⟨s1,s2⟩,s3⟩:=h2;refine⟨i,hi,s1,s2,fun z hz=>?_⟩;rw[hz]at s3;simp only at s3;split at s3
   ·rename_i v hv;refine⟨v,hv,?_⟩;rw[<-JR s3]
   ·cases s3
  ·cases h2
theorem JS:∀ {tab:List (TypeId×TyD)},tab.lookup t=some d->(t,d)∈tab
 | (t',d')::r,h=>by
  rw[List.lookup_cons]at h;split at h
  ·rename_i he;have:t=t':=by simpa using he
   cases h;subst this;simp
  ·exact List.mem_cons_of_mem _ (JS h)
theorem IY{tab:List (TypeId×TyD)}(h:tab.all (fun p=>Sa P p.1 p.2)=true):zJ P tab:=
 fun _ _ hl=>V7 (List.all_eq_true.1 h _ (JS hl))
theorem Ts{f:FuncId}{fn:Func}(hf:P.funcs[f]? = some fn)(hn:(fn.name == "runtime.NumGoroutine")=false)(hb:fn.body.isNone=false)(as:Array Value)(w:World) :
  (callFunc f as).runT P w #[]=(.ok (.enter f as) w,#[]):=by
 unfold callFunc;show Sem.runT P (Sem.bind (Sem.program Sem.pure) _) w #[]=_;simp only[Sem.bind,Sem.runT,hf,hn,hb,vK,if_false];rfl
end Go.Eng
end
