import Derived.Test.YtnhbgoiihgoneaaGreatDoorChecked
import Derived.KernelRfl
import Derived.OpenVars
import Derived.LaidLaws
import Derived.LaidHandle
import Derived.ChangeVars
import Derived.OpenShut
import Derived.Test.YtnhbgoiihgoneaaGreatDoorPa2
import Derived.Test.YtnhbgoiihgoneaaGreatDoorPa3
import Derived.Test.YtnhbgoiihgoneaaGreatDoorPa4
import Derived.Test.YtnhbgoiihgoneaaGreatDoorPa5
import Derived.Test.YtnhbgoiihgoneaaGreatDoorPa6
import Derived.Test.YtnhbgoiihgoneaaGreatDoorPa7
set_option maxRecDepth 100000
set_option maxHeartbeats 8000000
set_option linter.unusedVariables false
set_option linter.unusedSimpArgs false
set_option linter.unusedSectionVars false
section
namespace Go.Proofs.YtnhbgoiihgoneaaGreatDoor
open Go Go.Eng Go.IntWalk
variable {S : Shared} {h : Eng.Heap}
theorem SO{i:Nat}(h:i≤62):((2^i:Nat):Int)≤4611686018427387904:=by
 have:2^i≤2^62:=Nat.pow_le_pow_right (by omega) h
 have e:(2:Nat)^62=4611686018427387904:=by decide
 omega
theorem Mj(i:Nat):0≤((2^i:Nat):Int):=Int.natCast_nonneg _
theorem GU(hi:Eng.Inv S h)(n:Int)(hn0:0≤n)(hn:n≤62) :
  zc Tryz.prog S kz #[.int .i64 n] h (fun v h'=>v=.int .i64 ((2^n.toNat:Nat):Int)∧h'=h):=by
 refine JS (vs:=[.int .i64 n]) ⟨rfl,trivial⟩ hi ?_
 simp only[Ga,Tr.wp,Ex.ev,coerce,toInt_int,zb,zI,arith,Cst.val,SV.den,zU,List.getD_cons_zero,List.getD_cons_succ,List.getElem?_cons_zero,decide_eq_true_eq,decide_eq_false_iff_not,List.map_cons,List.map_nil,List.cons_append,List.nil_append]
 refine⟨fun us h'=>∃i:Nat,us=[.int .i64 ((2^i:Nat):Int),.int .i64 i]∧(i:Int)≤n∧h'=h,fun us _=>n.toNat-(toInt (us.getD 1 undef)).toNat,⟨0,rfl,hn0,rfl⟩,?_⟩
 rintro x y h' ⟨i,hx,hi2,rfl⟩
 obtain⟨rfl,rfl⟩:x=((2^i:Nat):Int)∧y=i:=by simpa using hx
 simp only[toInt_int,List.getD_cons_zero,List.getD_cons_succ,and_true]
 refine⟨fun hlt=>?_,fun hge=>?_⟩
 ·have p1:=SO (i:=i+1) (by omega)
  have p0:=Mj (i+1)
  have e1:2*((2^i:Nat):Int)=((2^(i+1):Nat):Int):=by rw[Nat.pow_succ];omega
  have w1:IntKind.i64.wrap (2*((2^i:Nat):Int))=((2^(i+1):Nat):Int):=by rw[e1];exact i64_in _ (by omega)
  have w2:IntKind.i64.wrap ((i:Int)+1)=((i+1:Nat):Int):=by rw[i64_in _ (by omega)];omega
  rw[w1,w2]
  refine⟨⟨i+1,rfl,by omega⟩,by omega⟩
 ·obtain rfl:n=i:=by omega
  simp
def jc(x:Int):Int:=if 0<x then((2^(15-x).toNat:Nat):Int)else 0
def kr(xs:List Int):Int:=(xs.map jc).sum
def cn(xs:List Int):Int:=(xs.map fun x=>if 0<x then 1 else 0).sum
def hok(xs:List Int):Prop:=∀x∈xs,0≤x∧x≤15
instance (xs:List Int):Decidable (hok xs):=by unfold hok;infer_instance
def zu(xs:List Int):Int:=
 if xs.length>320 then 0 else if ¬hok xs then 0 else if cn xs=0 then 5 else if kr xs>32768 then 2 else if kr xs=32768 then 1 else if cn xs=1∧kr xs=16384 then 4 else 3
theorem EZ(x:Int)(h:0≤x):0≤jc x∧jc x≤32768:=by
 unfold jc
 split
 ·have h1:2^(15-x).toNat≤2^15:=Nat.pow_le_pow_right (by omega) (by omega)
  have e:(2:Nat)^15=32768:=by decide
  have h2:=Mj (15-x).toNat
  exact⟨h2,by rw[e]at h1;exact Int.ofNat_le.2 h1⟩
 ·omega
theorem Pl:∀(xs:List Int),hok xs→0≤kr xs∧kr xs≤32768*xs.length
 | [],_=>by simp[kr]
 | x::r,h=>by
  have h1:=EZ x (h x (by simp)).1
  have h2:=Pl r fun y hy=>h y (by simp[hy])
  simp only[kr,List.map_cons,List.sum_cons,List.length_cons]at h2 ⊢
  omega
theorem Ly:∀(xs:List Int),0≤cn xs∧cn xs≤xs.length
 | []=>by simp[cn]
 | x::r=>by
  have h2:=Ly r
  simp only[cn,List.map_cons,List.sum_cons,List.length_cons]at h2 ⊢
  split <;> omega
theorem Gm{xs:List Int}{i:Nat}(hi:i<xs.length):xs.take (i+1)=xs.take i++[xs[i]]:=by
 rw[List.take_add_one,List.getElem?_eq_getElem hi];rfl
theorem BZ{xs:List Int}{i:Nat}(hi:i<xs.length):kr (xs.take (i+1))=kr (xs.take i)+jc xs[i]:=by
 unfold kr;rw[Gm hi,List.map_append,List.sum_append];simp
theorem Ca{xs:List Int}{i:Nat}(hi:i<xs.length):cn (xs.take (i+1))=cn (xs.take i)+(if 0<xs[i]then 1 else 0):=by
 unfold cn;rw[Gm hi,List.map_append,List.sum_append];simp
theorem Ip{xs:List Int}{i:Nat}(hi:i<xs.length)(h:hok (xs.take i))(hx:0≤xs[i]∧xs[i]≤15):hok (xs.take (i+1)):=by
 rw[Gm hi]
 intro x hm
 rcases List.mem_append.1 hm with h1 | h1
 ·exact h x h1
 ·simp at h1;subst h1;exact hx
theorem JX{xs:List Int}{i:Nat}(hi:i<xs.length)(hx:¬(0≤xs[i]∧xs[i]≤15)):¬hok xs:=fun h=>hx (h _ (List.getElem_mem hi))
theorem JY:∀ {xs:List Int},cn xs=0→kr xs=0
 | [],_=>rfl
 | x::r,h=>by
  have h2:=Ly r
  simp only[cn,List.map_cons,List.sum_cons]at h h2
  split at h
  ·omega
  ·rename_i hx
   have ih:kr r=0:=JY (by simp only[cn];omega)
   simp only[kr,List.map_cons,List.sum_cons]at ih ⊢
   rw[ih];simp[jc,hx]
theorem SP{x:Int}(h0:x>0)(h1:x≤15):IntKind.i64.wrap (1*2^min (15-x).toNat IntKind.i64.bits)=jc x:=by
 have e:min (15-x).toNat IntKind.i64.bits=(15-x).toNat:=Nat.min_eq_left (by show _≤64;omega)
 have hk:=EZ x (by omega)
 have e2:(1:Int)*2^(15-x).toNat=jc x:=by simp[jc,h0]
 rw[e,e2]
 exact i64_in _ (by omega)
theorem QE{x:Int}(h0:1≤x)(h1:x≤15):jc x=16384↔x=1:=by
 have:x=1∨x=2∨x=3∨x=4∨x=5∨x=6∨x=7∨x=8∨x=9∨x=10∨x=11∨x=12∨x=13∨x=14∨x=15:=by omega
 rcases this with rfl | rfl | rfl | rfl | rfl | rfl | rfl | rfl | rfl | rfl | rfl | rfl | rfl | rfl | rfl <;> decide
theorem qB(hi:Eng.Inv S h)(a:Option Addr)(c:Nat)(xs:List Int)(hx:zj h .i64 a xs) :
  zc Tryz.prog S xX #[.slice a xs.length c] h (fun v h'=>v=.int .i64 (zu xs)∧h'=h):=by
 refine Hq (vs:=[.slice a xs.length c]) ⟨rfl,trivial⟩ hi ?_
 simp only[Df,Tr.wp,Ex.ev,coerce,toInt_int,zb,zf,zi,zg,zh,yi,wz,Bd,zI,arith,Cst.val,SV.den,z9,zU,zp,List.getD_cons_zero,List.getD_cons_succ,List.getElem?_cons_zero,List.getElem?_cons_succ,decide_eq_true_eq,decide_eq_false_iff_not,List.map_cons,List.map_nil,List.cons_append,List.nil_append,and_true]
 refine⟨fun hbig=>?_,fun hsm=>?_⟩
 ·have:xs.length>320:=by omega
  simp[zu,this]
 have hlen:xs.length≤320:=by omega
 refine⟨fun us h'=>∃(i:Nat) (l:Int),us=[.int .i64 (kr (xs.take i)),.int .i64 (cn (xs.take i)),.int .i64 l,.int .i64 i]∧i≤xs.length∧h'=h∧hok (xs.take i)∧(cn (xs.take i)=1→1≤l∧l≤15∧kr (xs.take i)=jc l),
  fun us _=>xs.length-(toInt (us.getD 3 undef)).toNat,⟨0,0,rfl,by omega,rfl,by simp[hok],by simp[cn]⟩,?_⟩
 rintro x y z u h' ⟨i,l,hx1,hi2,rfl,hk,hone⟩
 obtain⟨rfl,rfl,rfl,rfl⟩:x=kr (xs.take i)∧y=cn (xs.take i)∧z=l∧u=i:=by simpa using hx1
 simp only[toInt_int,List.getD_cons_zero,List.getD_cons_succ,and_true,true_and]
 have b1:=Pl _ hk
 have b2:=Ly (xs.take i)
 have b3:(xs.take i).length≤320:=by rw[List.length_take];omega
 refine⟨fun hlt=>?_,fun hge=>?_⟩
 ·have hi3:i<xs.length:=by omega
  obtain⟨g1,g2⟩:=hx.cell (List.getElem?_eq_getElem hi3)
  refine⟨by simpa using g2,by omega,by omega,xs[i],by simpa[add_add]using g1,fun hbad=>?_,fun hgood=>?_⟩
  ·have:¬hok xs:=JX hi3 (by simp at hbad;omega)
   simp[zu,this]
  ·have hr:0≤xs[i]∧xs[i]≤15:=by simp at hgood;omega
   have w2:IntKind.i64.wrap ((i:Int)+1)=((i+1:Nat):Int):=by rw[i64_in _ (by omega)];omega
   have w4:IntKind.i64.wrap (15-xs[i])=15-xs[i]:=i64_in _ (by omega)
   have hk2:=Ip hi3 hk hr
   have kt:=EZ xs[i] hr.1
   rw[w2,w4]
   refine⟨fun hpos=>⟨by omega,fun _=>⟨⟨i+1,xs[i],?_,by omega,hk2,fun h1=>?_⟩,by omega⟩⟩,fun hneg _=>⟨⟨i+1,z,?_,by omega,hk2,fun h1=>?_⟩,by omega⟩⟩
   ·rw[SP hpos hr.2,BZ hi3,Ca hi3,if_pos (by omega),i64_in (kr _+_) (by omega),i64_in (cn _+1) (by omega)]
   ·rw[Ca hi3,if_pos (by omega)]at h1
    rw[BZ hi3,JY (show cn (xs.take i)=0 by omega)]
    omega
   ·rw[BZ hi3,Ca hi3,if_neg hneg,show jc xs[i]=0 from if_neg hneg,Int.add_zero,Int.add_zero]
   ·rw[Ca hi3,if_neg hneg,Int.add_zero]at h1
    rw[BZ hi3,show jc xs[i]=0 from if_neg hneg,Int.add_zero]
    exact hone h1
 ·obtain rfl:i=xs.length:=by omega
  rw[List.take_length]at *
  have hl:¬xs.length>320:=by omega
  by_cases h1:cn xs=0
  ·simp[zu,hl,hk,h1]
  by_cases h2:kr xs>32768
  ·simp[zu,hl,hk,h1,h2]
  by_cases h3:kr xs=32768
  ·simp[zu,hl,hk,h1,h3]
  by_cases h4:cn xs=1
  ·obtain⟨o1,o2,o3⟩:=hone h4
   have o4:=QE o1 o2
   rw[←o3]at o4
   by_cases h5:z=1
   ·simp[zu,hl,hk,h4,h5,o4.2 h5]
   ·have:¬kr xs=16384:=fun e=>h5 (o4.1 e)
    simp[zu,hl,hk,h2,h3,h4,h5,this]
  ·simp[zu,hl,hk,h1,h2,h3,h4]
theorem Jr(hi:Eng.Inv S h)(a:Option Addr)(c:Nat)(xs:List Int)(hx:zj h .i64 a xs) :
  zc Tryz.prog S Am #[.slice a xs.length c] h (fun v h'=>v=.int .i64 (zu xs)∧h'=h):=by
 refine Hr (vs:=[.slice a xs.length c]) ⟨rfl,trivial⟩ hi ?_
 simp only[Dg,Tr.wp,zG,Ex.ev,coerce,toInt_int,zb,zf,zi,zg,zh,yi,zI,arith,Cst.val,SV.den,zq,zL,zE,zo,zn,z9,zU,zp,List.flatMap_cons,List.flatMap_nil,List.getD_cons_zero,List.getD_cons_succ,List.getElem?_cons_zero,List.getElem?_cons_succ,decide_eq_true_eq,decide_eq_false_iff_not,List.map_cons,List.map_nil,List.cons_append,List.nil_append,List.append_nil,and_true,if_false,Bool.false_eq_true]
 refine⟨fun hbig=>?_,fun hsm=>?_⟩
 ·have:xs.length>320:=by omega
  simp[zu,this]
 have hlen:xs.length≤320:=by omega
 refine⟨fun us h'=>∃(i:Nat),us=[.int .i64 (kr (xs.take i)),.int .i64 (cn (xs.take i)),.int .i64 i]∧i≤xs.length∧h'=h∧hok (xs.take i),
  fun us _=>xs.length-(toInt (us.getD 2 undef)).toNat,⟨0,rfl,by omega,rfl,by simp[hok]⟩,?_⟩
 rintro x y u h' ⟨i,hx1,hi2,rfl,hk⟩
 obtain⟨rfl,rfl,rfl⟩:x=kr (xs.take i)∧y=cn (xs.take i)∧u=i:=by simpa using hx1
 simp only[toInt_int,List.getD_cons_zero,List.getD_cons_succ,and_true,true_and]
 have b1:=Pl _ hk
 have b2:=Ly (xs.take i)
 have b3:(xs.take i).length≤320:=by rw[List.length_take];omega
 refine⟨fun hlt=>?_,fun hge=>?_⟩
 ·have hi3:i<xs.length:=by omega
  obtain⟨g1,g2⟩:=hx.cell (List.getElem?_eq_getElem hi3)
  have hnn:(!a.isNone)=true:=by simpa using g2
  have g3:zd h' (((a.getD default).add ((i:Int).toNat*1)).add 0)=some (Value.int IntKind.i64 xs[i]):=by simpa[add_add]using g1
  have w2:IntKind.i64.wrap ((i:Int)+1)=((i+1:Nat):Int):=by rw[i64_in _ (by omega)];omega
  rw[w2]
  refine⟨hnn,by omega,hlt,xs[i],g3,fun hpos=>⟨hnn,by omega,hlt,xs[i],g3,fun _=>⟨fun hbig=>?_,fun hsm2=>⟨hnn,by omega,hlt,xs[i],g3,fun hp=>⟨hnn,by omega,hlt,xs[i],g3,?_⟩,fun hz _=>⟨⟨i+1,?_,by omega,?_⟩,by omega⟩⟩⟩⟩,fun hneg _=>⟨fun _=>?_,fun h=>by cases h⟩⟩
  ·have:¬hok xs:=JX hi3 (by omega)
   simp[zu,this]
  ·have w4:IntKind.i64.wrap (15-xs[i])=15-xs[i]:=i64_in _ (by omega)
   rw[w4]
   refine(GU hi (15-xs[i]) (by omega) (by omega)).mono ?_
   rintro _ _ ⟨rfl,rfl⟩
   have kt:=EZ xs[i] (by omega)
   have ke:((2^(15-xs[i]).toNat:Nat):Int)=jc xs[i]:=(if_pos hp).symm
   refine⟨_,rfl,fun _=>⟨⟨i+1,?_,by omega,rfl,Ip hi3 hk ⟨by omega,by omega⟩⟩,by omega⟩⟩
   rw[ke,BZ hi3,Ca hi3,if_pos (by omega),i64_in (kr _+_) (by omega),i64_in (cn _+1) (by omega)]
  ·rw[BZ hi3,Ca hi3,if_neg hz,show jc xs[i]=0 from if_neg hz,Int.add_zero,Int.add_zero]
  ·exact Ip hi3 hk ⟨by simp at hpos;omega,by omega⟩
  ·have:¬hok xs:=JX hi3 (by simp at hneg;omega)
   simp[zu,this]
 ·obtain rfl:i=xs.length:=by omega
  rw[List.take_length]at *
  have hl:¬xs.length>320:=by omega
  have p15:((2^(15:Int).toNat:Nat):Int)=32768:=by decide
  have p14:((2^(14:Int).toNat:Nat):Int)=16384:=by decide
  refine⟨fun h1=>?_,fun h1=>?_⟩
  ·have h1:cn xs=0:=by simpa using h1
   simp[zu,hl,hk,h1]
  have h1:¬cn xs=0:=by simpa using h1
  refine(GU hi 15 (by omega) (by omega)).mono ?_
  rintro _ _ ⟨rfl,rfl⟩
  rw[p15]
  refine⟨_,rfl,fun h2=>?_,fun h2=>?_⟩
  ·simp[zu,hl,hk,h1,h2]
  refine(GU hi 15 (by omega) (by omega)).mono ?_
  rintro _ _ ⟨rfl,rfl⟩
  rw[p15]
  refine⟨_,rfl,fun h3=>?_,fun h3=>⟨fun h4=>?_,fun h4 _=>⟨fun h=>h.elim,fun _=>?_⟩⟩⟩
  ·have h3:kr xs=32768:=by simpa using h3
   simp[zu,hl,hk,h1,h3]
  ·have h3:¬kr xs=32768:=by simpa using h3
   have h4:cn xs=1:=by simpa using h4
   refine(GU hi 14 (by omega) (by omega)).mono ?_
   rintro _ _ ⟨rfl,rfl⟩
   rw[p14]
   refine⟨_,rfl,fun _=>⟨fun h5=>?_,fun h5=>?_⟩⟩
   ·have h5:kr xs=16384:=by simpa using h5
    simp[zu,hl,hk,h4,h5]
   ·have h5:¬kr xs=16384:=by simpa using h5
    simp[zu,hl,hk,h2,h3,h4,h5]
  ·have h3:¬kr xs=32768:=by simpa using h3
   have h4:¬cn xs=1:=by simpa using h4
   simp[zu,hl,hk,h1,h2,h3,h4]
end Go.Proofs.YtnhbgoiihgoneaaGreatDoor
end
section
namespace Go.Proofs.YtnhbgoiihgoneaaGreatDoor
open Go Go.Eng Go.IntWalk
variable {S : Shared} {h : Eng.Heap} {v w : Value} {xs : List Int}
abbrev tI:Ty Value (List Int):=Wc .i64
def Pm(xs:List Int):Prop:=xs.length≤1048576
end Go.Proofs.YtnhbgoiihgoneaaGreatDoor
end
section
namespace Go.Proofs.YtnhbgoiihgoneaaGreatDoor
open Go Go.Eng Go.IntWalk
variable {S : Shared} {h : Eng.Heap} {v w : Value} {ps : List (Int × Int)}
abbrev Ew:Ty Value (List (Int×Int)):=X0
theorem SQ(H:Ew.R h v ps):∃a c,v=.slice a ps.length c:=by obtain⟨a,c,rfl,_⟩:=H;exact⟨a,c,rfl⟩
end Go.Proofs.YtnhbgoiihgoneaaGreatDoor
end
section
namespace Go.Proofs.YtnhbgoiihgoneaaGreatDoor
open Go Go.Eng Go.IntWalk
variable {S : Shared} {h : Eng.Heap}
def tl(x:Int):Nat→Int
 | 0=>0
 | i+1=>2*tl x i+(x/2^i)%2
theorem Lz{x:Int}{n:Nat}:0≤tl x n∧tl x n<2^n:=by
 induction n with
 | zero=>simp[tl]
 | succ n ih=>
  rw[tl,show(2:Int)^(n+1)=2*2^n by rw[Int.pow_succ];omega]
  omega
theorem GW{n m:Nat}(h:n≤m):(2:Int)^n≤2^m:=by
 rw[yP,yP];exact_mod_cast Nat.pow_le_pow_right (by decide) h
theorem Gn(x:Int)(i:Nat):x/2^i/2=x/2^(i+1):=by
 rw[Int.pow_succ,Int.ediv_ediv_of_nonneg (Int.le_of_lt (Int.pow_pos (by decide)))]
theorem SR(hi:Eng.Inv S h)(x:Int)(n:Nat)(h0:0≤x)(h1:x≤1099511627776)(hn:n≤32) :
  zc Tryz.prog S BC #[.int .i64 x,.int .i64 n] h (fun v h'=>v=.int .u64 (tl x n)∧h'=h):=by
 refine Jg (vs:=[.int .i64 x,.int .i64 n]) ⟨rfl,rfl,trivial⟩ hi ?_
 simp only[F0,Tr.wp,Ex.ev,coerce,toInt_int,zb,zI,arith,Cst.val,SV.den,zU,List.getD_cons_zero,List.getD_cons_succ,List.getElem?_cons_zero,decide_eq_true_eq,decide_eq_false_iff_not,List.map_cons,List.map_nil,List.cons_append,List.nil_append]
 refine⟨fun us h'=>∃i:Nat,us=[.int .i64 (x/2^i),.int .u64 (tl x i),.int .i64 i]∧i≤n∧h'=h,fun us _=>n-(toInt (us.getD 2 undef)).toNat,⟨0,by simp[tl],by omega,rfl⟩,?_⟩
 rintro a b c h' ⟨i,hx1,hi2,rfl⟩
 obtain⟨rfl,rfl,rfl⟩:a=x/2^i∧b=tl x i∧c=i:=by simpa using hx1
 refine⟨fun hlt=>?_,fun hge=>?_⟩
 ·have hp:(0:Int)<2^i:=Int.pow_pos (by decide)
  have hx0:0≤x/2^i:=Int.ediv_nonneg h0 (Int.le_of_lt hp)
  have hxl:x/2^i≤x:=Int.ediv_le_self _ h0
  have ht:=Lz (x:=x) (n:=i)
  have hp32:(2:Int)^i≤2^32:=GW (by omega)
  have e32:(2:Int)^32=4294967296:=by decide
  have w1:IntKind.i64.wrap ((x/2^i).tdiv 2)=x/2^(i+1):=by
   rw[i64_quo _ _ ⟨hx0,by omega,by omega⟩,Gn]
  have w2:IntKind.u64.wrap (IntKind.u64.wrap (2*tl x i)+IntKind.u64.wrap ((x/2^i).tmod 2))=tl x (i+1):=by
   rw[Int.tmod_eq_emod_of_nonneg hx0,u64_in (2*tl x i) (by omega),u64_in (x/2^i%2) (by omega),u64_in _ (by omega)]
   rfl
  have w3:IntKind.i64.wrap ((i:Int)+1)=((i+1:Nat):Int):=by rw[i64_in _ (by omega)];omega
  rw[w1,w2,w3]
  exact⟨⟨i+1,rfl,by omega,rfl⟩,by simp only[List.getD_cons_succ,List.getD_cons_zero,toInt_int];omega⟩
 ·obtain rfl:i=n:=by omega
  exact⟨rfl,rfl⟩
theorem SS (hi : Eng.Inv S h) (x : Int) (n : Nat) (h0 : 0 ≤ x) (h1 : x ≤ 1099511627776) (hn : n ≤ 32) :
    zc Tryz.prog S BB #[.int .u64 x, .int .i64 n] h (fun v h' => v = .int .u64 (tl x n) ∧ h' = h) := by
  refine Jf (vs := [.int .u64 x, .int .i64 n]) ⟨rfl, rfl, trivial⟩ hi ?_
  simp only [Fz, Tr.wp, Ex.ev, coerce, toInt_int, zb, zI, arith, Cst.val, SV.den, zU, List.getD_cons_zero, List.getD_cons_succ, List.getElem?_cons_zero, decide_eq_true_eq, decide_eq_false_iff_not, List.map_cons, List.map_nil, List.cons_append, List.nil_append]
  refine ⟨fun us h' => ∃ i : Nat, us = [.int .u64 (tl x i * 2 ^ (n - i)), .int .i64 i] ∧ i ≤ n ∧ h' = h, fun us _ => n - (toInt (us.getD 1 undef)).toNat, ⟨0, by simp [tl], by omega, rfl⟩, ?_⟩
  rintro b c h' ⟨i, hx1, hi2, rfl⟩
  obtain ⟨rfl, rfl⟩ : b = tl x i * 2 ^ (n - i) ∧ c = i := by simpa using hx1
  refine ⟨fun hlt => ?_, fun hge => ?_⟩
  · obtain ⟨k, hk⟩ : ∃ k, n - i = k + 1 := ⟨n - i - 1, by omega⟩
    have hp : (0 : Int) < 2 ^ i := Int.pow_pos (by decide)
    have hpk : (0 : Int) < 2 ^ k := Int.pow_pos (by decide)
    have hx0 : 0 ≤ x / 2 ^ i := Int.ediv_nonneg h0 (Int.le_of_lt hp)
    have ht := Lz (x := x) (n := i)
    have hb : 0 ≤ x / 2 ^ i % 2 ∧ x / 2 ^ i % 2 ≤ 1 := by omega
    have m1 : min (i : Int).toNat IntKind.u64.bits = i := by
      have : IntKind.u64.bits = 64 := rfl
      rw [this]; omega
    have w1 : IntKind.i64.wrap (IntKind.i64.wrap ((n : Int) - 1) - (i : Int)) = (k : Int) := by
      rw [i64_in ((n : Int) - 1) (by omega), i64_in _ (by omega)]; omega
    have m2 : min ((k : Int)).toNat IntKind.u64.bits = k := by
      have : IntKind.u64.bits = 64 := rfl
      rw [this]; omega
    have e1 : Go.bits .and .u64 (x.fdiv (2 ^ i)) 1 = x / 2 ^ i % 2 := by
      rw [Ig, Int.fdiv_eq_ediv_of_nonneg _ (Int.le_of_lt hp)]
    have hp32 : (2 : Int) ^ k ≤ 2 ^ 32 := GW (by omega)
    have e32 : (2 : Int) ^ 32 = 4294967296 := by decide
    have hbk : 0 ≤ x / 2 ^ i % 2 * 2 ^ k ∧ x / 2 ^ i % 2 * 2 ^ k ≤ 2 ^ k := by
      rcases (show x / 2 ^ i % 2 = 0 ∨ x / 2 ^ i % 2 = 1 by omega) with h | h <;> rw [h] <;> omega
    have e2 : IntKind.u64.wrap (x / 2 ^ i % 2 * 2 ^ k) = x / 2 ^ i % 2 * 2 ^ k := u64_in _ (by omega)
    have w3 : IntKind.i64.wrap ((i : Int) + 1) = ((i + 1 : Nat) : Int) := by rw [i64_in _ (by omega)]; omega
    have e3 : Go.bits .or .u64 (tl x i * 2 ^ (n - i)) (x / 2 ^ i % 2 * 2 ^ k) = tl x (i + 1) * 2 ^ (n - (i + 1)) := by
      have hk2 : n - (i + 1) = k := by omega
      rw [hk, hk2]
      obtain ⟨t, ht2⟩ := Int.eq_ofNat_of_zero_le ht.1
      obtain ⟨β, hβ⟩ := Int.eq_ofNat_of_zero_le hb.1
      have hβ1 : β ≤ 1 := by omega
      rw [ht2] at ht
      have htl : t < 2 ^ i := by have := ht.2; rw [yP] at this; exact_mod_cast this
      have hsum : i + (k + 1) ≤ 32 := by omega
      have hA : t * 2 ^ (k + 1) < 2 ^ 32 := by
        calc t * 2 ^ (k + 1) < 2 ^ i * 2 ^ (k + 1) := Nat.mul_lt_mul_of_pos_right htl (Nat.two_pow_pos _)
          _ = 2 ^ (i + (k + 1)) := (Nat.pow_add 2 i (k + 1)).symm
          _ ≤ 2 ^ 32 := Nat.pow_le_pow_right (by decide) hsum
      have hB : β * 2 ^ k < 2 ^ (k + 1) := by
        have : β * 2 ^ k ≤ 1 * 2 ^ k := Nat.mul_le_mul_right _ hβ1
        have hpp := Nat.two_pow_pos k
        rw [Nat.pow_succ]; omega
      have hB2 : 2 ^ (k + 1) ≤ 2 ^ 32 := Nat.pow_le_pow_right (by decide) (by omega)
      rw [tl, ht2, hβ, yP, yP]
      have c1 : ((t : Int) * ((2 ^ (k + 1) : Nat) : Int)) = ((t * 2 ^ (k + 1) : Nat) : Int) := by push_cast; rfl
      have c2 : ((β : Int) * ((2 ^ k : Nat) : Int)) = ((β * 2 ^ k : Nat) : Int) := by push_cast; rfl
      rw [c1, c2, Go.bits_or_u64_nat _ _ (by omega) (by omega)]
      have hor := Nat.two_pow_add_eq_or_of_lt hB t
      rw [Nat.mul_comm t, ← hor]
      have : (2 * (t : Int) + β) * ((2 ^ k : Nat) : Int) = ((2 ^ (k + 1) * t + β * 2 ^ k : Nat) : Int) := by
        rw [Nat.pow_succ]; push_cast; rw [Int.add_mul, Int.mul_comm (2 : Int), Int.mul_assoc, Int.mul_comm (t : Int), Int.mul_comm (2 : Int)]
      rw [this]
    refine ⟨by omega, ?_⟩
    rw [w1, m1, m2, e1, e2, w3, e3]
    exact ⟨by omega, ⟨i + 1, rfl, by omega, rfl⟩, by simp only [List.getD_cons_succ, List.getD_cons_zero, toInt_int]; omega⟩
  · obtain rfl : i = n := by omega
    rw [Nat.sub_self, Int.pow_zero, Int.mul_one]
    exact ⟨rfl, rfl⟩
end Go.Proofs.YtnhbgoiihgoneaaGreatDoor
end
section
namespace Go.Proofs.YtnhbgoiihgoneaaGreatDoor
open Go Go.Eng Go.IntWalk
variable {S : Shared} {h : Eng.Heap}
def cst(xs:List Int):Nat→Int
 | 0=>0
 | l+1=>2*(cst xs l+(if l=0 then 0 else((xs.count (l:Int):Nat):Int)))
def qj(xs:List Int)(j:Nat):Int×Int:=(xs.getD j 0,tl (cst xs (xs.getD j 0).toNat+(((xs.take j).count (xs.getD j 0):Nat):Int)) (xs.getD j 0).toNat)
def y7(xs:List Int):List (Int×Int):=(List.range xs.length).map fun j=>if 1≤xs.getD j 0 then qj xs j else(0,0)
def yK(xs:List Int):List (Int×Int):=if zu xs=0∨zu xs=2 then []else y7 xs
theorem j6{xs:List Int}(h:¬(zu xs=0∨zu xs=2)):xs.length≤320∧hok xs:=by
 unfold zu at h
 by_cases h1:xs.length>320
 ·simp[h1]at h
 ·by_cases h2:hok xs
  ·exact⟨by omega,h2⟩
  ·simp[h1,h2]at h
theorem We{xs:List Int}(hl:xs.length≤320)(l:Nat):0≤cst xs l∧cst xs l≤640*(2^l-1):=by
 induction l with
 | zero=>simp[cst]
 | succ l ih=>
  rw[cst,show(2:Int)^(l+1)=2*2^l by rw[Int.pow_succ];omega]
  have hc:(if l=0 then(0:Int)else((xs.count (l:Int):Nat):Int))≤320∧0≤(if l=0 then(0:Int)else((xs.count (l:Int):Nat):Int)):=by
   have:=List.count_le_length (a:=(l:Int)) (l:=xs)
   split <;> omega
  omega
theorem kF{xs:List Int}(hl:xs.length≤320){l:Nat}(h:l≤16):0≤cst xs l∧cst xs l≤41943040:=by
 have h1:=We hl l
 have h2:(2:Int)^l≤2^16:=GW h
 have e:(2:Int)^16=65536:=by decide
 omega
theorem BE{xs:List Int}{a:Int}{i:Nat}(hl:xs.length≤320):(xs.take i).count a≤320:=by
 have:=List.count_le_length (a:=a) (l:=xs.take i)
 rw[List.length_take]at this
 omega
theorem kW{xs:List Int}{i:Nat}(hi:i<xs.length)(a:Int):(xs.take (i+1)).count a=(xs.take i).count a+(if xs[i]=a then 1 else 0):=by
 rw[List.take_add_one,List.getElem?_eq_getElem hi,List.count_append]
 simp only[Option.toList_some,List.count_cons,List.count_nil,beq_iff_eq,Nat.zero_add]
def Ay(xs:List Int)(i:Nat):List Int:=(List.range 17).map fun(l:Nat)=>if l=0 then 0 else(((xs.take i).count (l:Int):Nat):Int)
theorem CC{xs:List Int}{i:Nat}:(Ay xs i).length=17:=by simp[Ay]
theorem CE{xs:List Int}{i l:Nat}(h:l<17):(Ay xs i)[l]? = some (if l=0 then 0 else(((xs.take i).count (l:Int):Nat):Int)):=by simp[Ay,h]
theorem QF{xs:List Int}:Ay xs 0=List.replicate 17 0:=by
 apply List.ext_getElem?
 intro l
 by_cases h:l<17
 ·rw[CE h,List.getElem?_replicate,if_pos h];simp
 ·rw[List.getElem?_eq_none (by rw[CC];omega),List.getElem?_eq_none (by simp;omega)]
theorem QG{xs:List Int}{i:Nat}(hi:i<xs.length)(h0:xs[i]≤0):Ay xs (i+1)=Ay xs i:=by
 unfold Ay
 apply List.map_congr_left
 intro l hl
 by_cases h:l=0
 ·simp[h]
 ·rw[if_neg h,if_neg h,kW hi,if_neg (show ¬xs[i]=(l:Int) by omega)];simp
theorem QH{xs:List Int}{i:Nat}(hi:i<xs.length){x:Nat}(hx:xs[i]=(x:Int))(h0:1≤x)(h1:x<17):Ay xs (i+1)=(Ay xs i).set x ((((xs.take i).count (x:Int):Nat):Int)+1):=by
 apply List.ext_getElem?
 intro l
 rw[List.getElem?_set,CC]
 by_cases h:l<17
 ·rw[CE h]
  by_cases he:x=l
  ·subst he
   rw[if_pos rfl,if_pos h1,if_neg (by omega),kW hi,if_pos hx];push_cast;rfl
  ·rw[if_neg he,CE h]
   by_cases hz:l=0
   ·simp[hz]
   ·rw[if_neg hz,if_neg hz,kW hi,if_neg (by omega)];simp
 ·rw[List.getElem?_eq_none (by rw[CC];omega),if_neg (by omega),List.getElem?_eq_none (by rw[CC];omega)]
def nxL(xs:List Int)(l:Nat):List Int:=(List.range 17).map fun j=>if j<l then cst xs j else 0
theorem Ey{xs:List Int}{i:Nat}:(nxL xs i).length=17:=by simp[nxL]
theorem GX{xs:List Int}{i l:Nat}(h:l<17):(nxL xs i)[l]? = some (if l<i then cst xs l else 0):=by simp[nxL,h]
theorem UU{xs:List Int}:nxL xs 1=List.replicate 17 0:=by
 apply List.ext_getElem?
 intro l
 by_cases h:l<17
 ·rw[GX h,List.getElem?_replicate,if_pos h]
  by_cases h2:l<1
  ·have:l=0:=by omega
   subst this;simp[cst]
  ·rw[if_neg h2]
 ·rw[List.getElem?_eq_none (by rw[Ey];omega),List.getElem?_eq_none (by simp;omega)]
theorem SU{xs:List Int}{l:Nat}(h1:l<17):nxL xs (l+1)=(nxL xs l).set l (cst xs l):=by
 apply List.ext_getElem?
 intro j
 rw[List.getElem?_set,Ey]
 by_cases h:j<17
 ·rw[GX h]
  by_cases he:l=j
  ·subst he;rw[if_pos rfl,if_pos h1,if_pos (by omega)]
  ·rw[if_neg he,GX h]
   by_cases hz:j<l
   ·rw[if_pos hz,if_pos (by omega)]
   ·rw[if_neg hz,if_neg (by omega)]
 ·rw[List.getElem?_eq_none (by rw[Ey];omega),if_neg (by omega),List.getElem?_eq_none (by rw[Ey];omega)]
def nxS(xs:List Int)(s:Nat):List Int:=(List.range 17).map fun j=>if j<16 then cst xs j+(if j=0 then 0 else(((xs.take s).count (j:Int):Nat):Int))else 0
theorem GY{xs:List Int}{i:Nat}:(nxS xs i).length=17:=by simp[nxS]
theorem Od{xs:List Int}{i l:Nat}(h:l<16)(h0:1≤l):(nxS xs i)[l]? = some (cst xs l+(((xs.take i).count (l:Int):Nat):Int)):=by
 have:l≠0:=by omega
 simp[nxS,h,this,show l<17 by omega]
theorem SW{xs:List Int}:nxL xs 16=nxS xs 0:=by
 unfold nxL nxS
 apply List.map_congr_left
 intro j hj
 simp
theorem SX{xs:List Int}{i:Nat}(hi:i<xs.length)(h0:xs[i]≤0):nxS xs (i+1)=nxS xs i:=by
 unfold nxS
 apply List.map_congr_left
 intro l hl
 by_cases h:l=0
 ·simp[h]
 ·rw[kW hi,if_neg (show ¬xs[i]=(l:Int) by omega)];simp
theorem SY{xs:List Int}{i:Nat}(hi:i<xs.length){x:Nat}(hx:xs[i]=(x:Int))(h0:1≤x)(h1:x<16):nxS xs (i+1)=(nxS xs i).set x (cst xs x+(((xs.take i).count (x:Int):Nat):Int)+1):=by
 apply List.ext_getElem?
 intro l
 rw[List.getElem?_set,GY]
 by_cases h:l<17
 ·by_cases he:x=l
  ·subst he
   rw[if_pos rfl,if_pos (by omega),Od h1 h0,kW hi,if_pos hx];push_cast;rw[Int.add_assoc]
  ·rw[if_neg he]
   simp only[nxS,List.getElem?_map,List.getElem?_range h,Option.map_some]
   by_cases hz:l=0
   ·simp[hz]
   ·have hc:(xs.take (i+1)).count (l:Int)=(xs.take i).count (l:Int):=by rw[kW hi,if_neg (show ¬xs[i]=(l:Int) by omega)];rfl
    simp only[hc]
 ·rw[List.getElem?_eq_none (by rw[GY];omega),if_neg (by omega),List.getElem?_eq_none (by rw[GY];omega)]
def Az(xs:List Int)(s:Nat):List (Int×Int):=(List.range xs.length).map fun j=>if j<s∧1≤xs.getD j 0 then qj xs j else(0,0)
theorem CF{xs:List Int}{s:Nat}:(Az xs s).length=xs.length:=by simp[Az]
theorem QI{xs:List Int}:Az xs 0=List.replicate xs.length (0,0):=by
 apply List.ext_getElem?
 intro l
 by_cases h:l<xs.length
 ·simp[Az,h]
 ·rw[List.getElem?_eq_none (by rw[CF];omega),List.getElem?_eq_none (by simp;omega)]
theorem QJ{xs:List Int}:Az xs xs.length=y7 xs:=by
 unfold Az y7
 apply List.map_congr_left
 intro j hj
 have:j<xs.length:=by simpa using hj
 simp[this]
theorem kX{xs:List Int}{i:Nat}(hi:i<xs.length):xs.getD i 0=xs[i]:=by simp[List.getD,List.getElem?_eq_getElem hi]
theorem QK{xs:List Int}{i:Nat}(hi:i<xs.length)(h0:xs[i]≤0):Az xs (i+1)=Az xs i:=by
 unfold Az
 apply List.map_congr_left
 intro j hj
 by_cases h:j=i
 ·subst h
  rw[kX hi,if_neg (by omega),if_neg (by omega)]
 ·have:(j<i+1∧1≤xs.getD j 0)↔(j<i∧1≤xs.getD j 0):=by omega
  simp only[this]
theorem QL{xs:List Int}{i:Nat}(hi:i<xs.length)(h0:1≤xs[i]):Az xs (i+1)=(Az xs i).set i (qj xs i):=by
 apply List.ext_getElem?
 intro j
 rw[List.getElem?_set,CF]
 by_cases h:j<xs.length
 ·by_cases he:i=j
  ·subst he
   rw[if_pos rfl,if_pos hi]
   simp only[Az,List.getElem?_map,List.getElem?_range h,Option.map_some,kX h]
   rw[if_pos ⟨by omega,h0⟩]
  ·rw[if_neg he]
   simp only[Az,List.getElem?_map,List.getElem?_range h,Option.map_some]
   have:(j<i+1∧1≤xs.getD j 0)↔(j<i∧1≤xs.getD j 0):=by omega
   simp only[this]
 ·rw[List.getElem?_eq_none (by rw[CF];omega),if_neg (by omega),List.getElem?_eq_none (by rw[CF];omega)]
def qw(xs:List Int)(L i:Nat):List (Int×Int):=(List.range xs.length).map fun j=>if(1≤xs.getD j 0∧xs.getD j 0<L)∨(xs.getD j 0=L∧j<i)then qj xs j else(0,0)
theorem CG{xs:List Int}{L i:Nat}:(qw xs L i).length=xs.length:=by simp[qw]
theorem QM{xs:List Int}:qw xs 1 0=List.replicate xs.length (0,0):=by
 apply List.ext_getElem?
 intro l
 by_cases h:l<xs.length
 ·simp only[qw,List.getElem?_map,List.getElem?_range h,Option.map_some,List.getElem?_replicate,if_pos h]
  rw[if_neg (by omega)]
 ·rw[List.getElem?_eq_none (by rw[CG];omega),List.getElem?_eq_none (by simp;omega)]
theorem QN{xs:List Int}{L:Nat}(h:1≤L):qw xs L xs.length=qw xs (L+1) 0:=by
 unfold qw
 apply List.map_congr_left
 intro j hj
 have:j<xs.length:=by simpa using hj
 have:((1≤xs.getD j 0∧xs.getD j 0<L)∨(xs.getD j 0=L∧j<xs.length))↔((1≤xs.getD j 0∧xs.getD j 0<((L+1:Nat):Int))∨(xs.getD j 0=((L+1:Nat):Int)∧j<0)):=by omega
 simp only[this]
theorem QO{xs:List Int}(hk:hok xs):qw xs 16 0=y7 xs:=by
 unfold qw y7
 apply List.map_congr_left
 intro j hj
 have hj:j<xs.length:=by simpa using hj
 have hb:=hk _ (List.getElem_mem hj)
 rw[kX hj]
 have:((1≤xs[j]∧xs[j]<((16:Nat):Int))∨(xs[j]=((16:Nat):Int)∧j<0))↔1≤xs[j]:=by omega
 simp only[this]
theorem QP{xs:List Int}{L i:Nat}(hi:i<xs.length)(h0:xs[i]≠(L:Int)):qw xs L (i+1)=qw xs L i:=by
 unfold qw
 apply List.map_congr_left
 intro j hj
 by_cases h:j=i
 ·subst h
  rw[kX hi]
  have:((1≤xs[j]∧xs[j]<(L:Int))∨(xs[j]=(L:Int)∧j<j+1))↔((1≤xs[j]∧xs[j]<(L:Int))∨(xs[j]=(L:Int)∧j<j)):=by omega
  simp only[this]
 ·have:((1≤xs.getD j 0∧xs.getD j 0<(L:Int))∨(xs.getD j 0=(L:Int)∧j<i+1))↔((1≤xs.getD j 0∧xs.getD j 0<(L:Int))∨(xs.getD j 0=(L:Int)∧j<i)):=by omega
  simp only[this]
theorem QQ{xs:List Int}{L i:Nat}(hi:i<xs.length)(h0:xs[i]=(L:Int)):qw xs L (i+1)=(qw xs L i).set i (qj xs i):=by
 apply List.ext_getElem?
 intro j
 rw[List.getElem?_set,CG]
 by_cases h:j<xs.length
 ·by_cases he:i=j
  ·subst he
   rw[if_pos rfl,if_pos hi]
   simp only[qw,List.getElem?_map,List.getElem?_range h,Option.map_some,kX h]
   rw[if_pos (.inr ⟨h0,by omega⟩)]
  ·rw[if_neg he]
   simp only[qw,List.getElem?_map,List.getElem?_range h,Option.map_some]
   have:((1≤xs.getD j 0∧xs.getD j 0<(L:Int))∨(xs.getD j 0=(L:Int)∧j<i+1))↔((1≤xs.getD j 0∧xs.getD j 0<(L:Int))∨(xs.getD j 0=(L:Int)∧j<i)):=by omega
   simp only[this]
 ·rw[List.getElem?_eq_none (by rw[CG];omega),if_neg (by omega),List.getElem?_eq_none (by rw[CG];omega)]
theorem Oe{a:Option Addr}{l c:Nat}{ps:List (Int×Int)}(H:xr h (.slice a l c) ps)(hs:∀b,ze (.slice a l c)=some b→¬S b){i:Nat}(hi:i<ps.length)(x y:Int) :
  yC S h (((a.getD default).add (i*2)).add 0)∧yC S (zy h (((a.getD default).add (i*2)).add 0) (.int .i64 x)) (((a.getD default).add (i*2)).add (0+1)) ∧
  xr (zy (zy h (((a.getD default).add (i*2)).add 0) (.int .i64 x)) (((a.getD default).add (i*2)).add (0+1)) (.int .u64 y)) (.slice a l c) (ps.set i (x,y)) ∧
  ∀z,ze (.slice a l c)≠some z→zy (zy h (((a.getD default).add (i*2)).add 0) (.int .i64 x)) (((a.getD default).add (i*2)).add (0+1)) (.int .u64 y) z=h z:=by
 obtain⟨b,sp,T,e,hb⟩:=H
 cases e
 have hsb:=hs b rfl
 have e1:(((some (⟨b,0,none⟩:Addr)).getD default).add (i*2)).add 0=(⟨b,i*2,none⟩:Addr):=by
  rw[add_add,Option.getD_some,zm];simp
 have e2:(((some (⟨b,0,none⟩:Addr)).getD default).add (i*2)).add (0+1)=(⟨b,i*2+1,none⟩:Addr):=by
  rw[add_add,Option.getD_some,zm];simp
 have hlen:i<(ps++sp).length:=by simp;omega
 have hsz:(Eng.yF (ps++sp)).size=(ps++sp).length*2:=Jb _
 have ok:∀ {c:Array Value} {h1:Eng.Heap} {i:Nat},h1 b=some (.cells c T)→i<c.size→yC S h1 ⟨b,i,none⟩:=fun {c h1 i} hc hi2=>
  ⟨⟨c[i],by simp[zd,hc,hi2]⟩,by simp[yd,hc],hsb⟩
 rw[e1,e2,jH hb]
 refine⟨ok hb (by omega),ok upd_same (by rw[Array.size_setIfInBounds];omega),?_⟩
 rw[jH upd_same,yY,KB _ _ hlen,List.set_append_left _ _ hi]
 exact⟨⟨b,sp,T,by simp,upd_same⟩,fun z hz=>upd_ne fun e=>hz (by rw[e];rfl)⟩
end Go.Proofs.YtnhbgoiihgoneaaGreatDoor
end
section
namespace Go.Proofs.YtnhbgoiihgoneaaGreatDoor
open Go Go.Eng Go.IntWalk
def zF(xs:List Int):List (Nat×Nat):=(y7 xs).map fun p=>(p.1.toNat,p.2.toNat)
theorem wG{xs:List Int}:(y7 xs).length=xs.length:=by simp[y7]
theorem x7{xs:List Int}:(zF xs).length=xs.length:=by simp[zF,y7]
theorem ql{xs:List Int}{j:Nat}(hj:j<xs.length):(y7 xs)[j]? = some (if 1≤xs[j]then qj xs j else(0,0)):=by
 simp only[y7,List.getElem?_map,List.getElem?_range hj,Option.map_some,kX hj]
theorem Bx{xs:List Int}{j l:Nat}(hj:j<xs.length)(hl:xs[j]=(l:Int)):qj xs j=((l:Int),tl (cst xs l+(((xs.take j).count (l:Int):Nat):Int)) l):=by
 unfold qj
 rw[kX hj,hl,Int.toNat_natCast]
theorem k6{xs:List Int}(hok:hok xs){j:Nat}{p:Int×Int}(h:(y7 xs)[j]? = some p):∃l b:Nat,p=((l:Int),(b:Int))∧(zF xs)[j]? = some (l,b)∧l≤15∧b<2^l:=by
 have hj:j<xs.length:=by have:=(List.getElem?_eq_some_iff.1 h).1;rwa[wG]at this
 have hc:(zF xs)[j]? = some (p.1.toNat,p.2.toNat):=by simp only[zF,List.getElem?_map,h,Option.map_some]
 rw[ql hj]at h
 have hb:=hok _ (List.getElem_mem hj)
 obtain⟨l,hl⟩:=Int.eq_ofNat_of_zero_le hb.1
 by_cases h1:1≤xs[j]
 ·rw[if_pos h1,Bx hj hl]at h
  have h:=(Option.some.inj h).symm
  subst h
  have ht:=Lz (x:=cst xs l+(((xs.take j).count (l:Int):Nat):Int)) (n:=l)
  obtain⟨b,hb2⟩:=Int.eq_ofNat_of_zero_le ht.1
  refine⟨l,b,by rw[hb2],by rw[hc,hb2];rfl,by omega,?_⟩
  have:=ht.2
  rw[hb2,yP]at this
  exact_mod_cast this
 ·rw[if_neg h1]at h
  have h:=(Option.some.inj h).symm
  subst h
  exact⟨0,0,rfl,by rw[hc];rfl,by omega,by decide⟩
def Em(cs:List (Nat×Nat))(m l v:Nat):Prop:=∃s c,s<m∧cs[s]? = some c∧l<c.1∧c.2%2^l=v
def Ec(cs:List (Nat×Nat))(l v:Nat):Prop:=∃c∈cs,l<c.1∧c.2%2^l=v
instance (cs:List (Nat×Nat)) (l v:Nat):Decidable (Ec cs l v):=by unfold Ec;infer_instance
def Ym(cs:List (Nat×Nat)):Nat→Nat→Nat→Nat
 | 0,_,_=>0
 | m+1,l,v=>if cs[m]? = some (l,v)∧0<l then m+1 else Ym cs m l v
theorem Of{cs:List (Nat×Nat)}{l v:Nat}:Em cs cs.length l v↔Ec cs l v:=by
 constructor
 ·rintro⟨s,c,_,h,h2⟩
  exact⟨c,List.mem_of_getElem? h,h2⟩
 ·rintro⟨c,hc,h2⟩
  obtain⟨s,hs⟩:=List.getElem?_of_mem hc
  exact⟨s,c,(List.getElem?_eq_some_iff.1 hs).1,hs,h2⟩
theorem JZ{b l k:Nat}(h:l≤k):b%2^k%2^l=b%2^l:=Nat.mod_mod_of_dvd _ (Nat.pow_dvd_pow 2 h)
theorem X1{cs:List (Nat×Nat)}{m l v:Nat}(h:Em cs m (l+1) v):Em cs m l (v%2^l):=by
 obtain⟨s,c,h1,h2,h3,h4⟩:=h
 exact⟨s,c,h1,h2,by omega,by rw[←h4,JZ (by omega)]⟩
theorem Ez{cs:List (Nat×Nat)}{l v:Nat}:∀ {m:Nat},Ym cs m l v≠0→∃s,s<m∧cs[s]? = some (l,v)∧0<l∧Ym cs m l v=s+1
 | 0,h=>absurd rfl h
 | m+1,h=>by
  rw[Ym]at h ⊢
  by_cases h1:cs[m]? = some (l,v)∧0<l
  ·rw[if_pos h1];exact⟨m,by omega,h1.1,h1.2,rfl⟩
  ·rw[if_neg h1]at h ⊢
   obtain⟨s,a,b,c,d⟩:=Ez h
   exact⟨s,by omega,b,c,d⟩
theorem Og{cs:List (Nat×Nat)}{l v:Nat}:∀ {m:Nat},(∀s,s<m→cs[s]? = some (l,v)→¬0<l)→Ym cs m l v=0
 | 0,_=>rfl
 | m+1,h=>by
  rw[Ym,if_neg (fun h1=>h m (by omega) h1.1 h1.2)]
  exact Og fun s hs=>h s (by omega)
theorem X3{cs:List (Nat×Nat)}{m l v:Nat}(h:Ym cs m (l+1) v≠0):Em cs m l (v%2^l):=by
 obtain⟨s,a,b,_,_⟩:=Ez h
 exact⟨s,_,a,b,Nat.lt_succ_self _,rfl⟩
def uniq(cs:List (Nat×Nat)):Prop:=∀s t l v:Nat,0<l→cs[s]? = some (l,v)→cs[t]? = some (l,v)→s=t
theorem X4{cs:List (Nat×Nat)}(U:uniq cs){s l v:Nat}(h:cs[s]? = some (l,v))(hl:0<l){m:Nat}(hm:s<m):Ym cs m l v=s+1:=by
 by_cases h0:Ym cs m l v=0
 ·exfalso
  induction m with
  | zero=>omega
  | succ m ih=>
   rw[Ym]at h0
   by_cases h1:cs[m]? = some (l,v)∧0<l
   ·rw[if_pos h1]at h0;omega
   ·rw[if_neg h1]at h0
    by_cases h2:s=m
    ·subst h2;exact h1 ⟨h,hl⟩
    ·exact ih (by omega) h0
 ·obtain⟨t,_,b,_,d⟩:=Ez h0
  rw[d,U s t l v hl h b]
def nxt(cs:List (Nat×Nat))(b:Nat):Nat→Nat→Int×Int×Int
 | 0,_=>(2,0,0)
 | f+1,l=>if Ym cs cs.length l (b%2^l)≠0 then(1,(Ym cs cs.length l (b%2^l):Int)-1,(l:Int))else if Ec cs l (b%2^l)then nxt cs b f (l+1)else(0,0,0)
def DS(l:Nat)(xs:List Int):Int:=(xs.map fun x=>if 0<x∧x≤(l:Int)then jc x else 0).sum
theorem SZ(x:Int):0≤jc x:=by
 unfold jc
 split
 ·exact Int.natCast_nonneg _
 ·omega
theorem Oh(l:Nat):∀xs:List Int,DS l xs≤kr xs
 | []=>by simp[DS,kr]
 | x::r=>by
  have:=Oh l r
  have h0:=SZ x
  unfold DS kr at *
  simp only[List.map_cons,List.sum_cons]
  split <;> omega
theorem KG:∀xs:List Int,DS 0 xs=0
 | []=>rfl
 | x::r=>by
  have:=KG r
  unfold DS at *
  simp only[List.map_cons,List.sum_cons,this]
  rw[if_neg (by omega)];rfl
theorem Gp(l:Nat)(hl:l+1≤15):∀xs:List Int,DS (l+1) xs=DS l xs+((xs.count ((l+1:Nat):Int):Nat):Int)*2^(15-(l+1))
 | []=>by simp[DS]
 | x::r=>by
  have ih:=Gp l hl r
  unfold DS at *
  simp only[List.map_cons,List.sum_cons,List.count_cons]
  by_cases h:x=((l+1:Nat):Int)
  ·have e1:(x==((l+1:Nat):Int))=true:=by simp[h]
   rw[e1,if_pos rfl,if_pos (show 0<x∧x≤((l+1:Nat):Int) by omega),if_neg (show ¬(0<x∧x≤(l:Int)) by omega),ih]
   have e2:jc x=2^(15-(l+1)):=by
    unfold jc
    rw[if_pos (by omega),yP]
    congr 3;omega
   rw[e2];push_cast;rw[Int.add_mul];omega
  ·have e1:(x==((l+1:Nat):Int))=false:=beq_eq_false_iff_ne.2 h
   rw[e1]
   have e3:(0<x∧x≤((l+1:Nat):Int))↔(0<x∧x≤(l:Int)):=by omega
   simp only[e3,Bool.false_eq_true,if_false,Nat.add_zero]
   rw[ih];omega
theorem Mk{xs:List Int}:∀l:Nat,l+1≤15→cst xs (l+1)*2^(15-(l+1))=DS l xs
 | 0,_=>by simp[cst,KG]
 | l+1,h=>by
  have ih:=Mk (xs:=xs) l (by omega)
  rw[cst,Gp l (by omega),←ih,if_neg (by omega)]
  have e:(2:Int)^(15-(l+1))=2*2^(15-(l+1+1)):=by
   rw[show 15-(l+1)=(15-(l+1+1))+1 by omega,Int.pow_succ];omega
  rw[e]
  generalize (2:Int)^(15-(l+1+1))=p
  generalize cst xs (l+1)=c
  generalize ((xs.count ((l+1:Nat):Int):Nat):Int)=k
  rw[Int.mul_comm 2 (c+k),Int.mul_assoc,Int.add_mul]
theorem Iq{xs:List Int}(hk:kr xs≤32768){l:Nat}(h1:1≤l)(h2:l≤15):cst xs l+((xs.count (l:Int):Nat):Int)≤2^l:=by
 obtain⟨m,rfl⟩:∃m,l=m+1:=⟨l-1,by omega⟩
 have a:=Mk (xs:=xs) m h2
 have b:=Gp m h2 xs
 have c:=Oh (m+1) xs
 have hp:(0:Int)<2^(15-(m+1)):=Int.pow_pos (by decide)
 have e:(32768:Int)=2^(m+1)*2^(15-(m+1)):=by
  rw[←Int.pow_add,show m+1+(15-(m+1))=15 by omega];rfl
 refine Int.le_of_mul_le_mul_right (a:=2^(15-(m+1))) ?_ hp
 rw[Int.add_mul,a,←b,←e]
 omega
theorem Ml:∀ {n:Nat} {x y:Int},0≤x→0≤y→tl x n=tl y n→x%2^n=y%2^n
 | 0,x,y,_,_,_=>by simp
 | n+1,x,y,hx,hy,h=>by
  rw[tl,tl]at h
  have hp:(0:Int)<2^n:=Int.pow_pos (by decide)
  have h2:x/2^n%2=y/2^n%2:=by omega
  have h1:tl x n=tl y n:=by omega
  have ih:=Ml hx hy h1
  have key:∀z:Int,z%2^(n+1)=z%2^n+2^n*(z/2^n%2):=fun z=>by
   have hd:z/(2^n*2)=z/2^n/2:=(Int.ediv_ediv_of_nonneg (Int.le_of_lt hp)).symm
   rw[Int.pow_succ,Int.emod_def z (2^n*2),hd,Int.emod_def z (2^n),Int.emod_def (z/2^n) 2,Int.mul_sub,Int.mul_assoc]
   omega
  rw[key x,key y,ih,h2]
theorem qk{xs:List Int}{j:Nat}(hj:j<xs.length){a:Int}(h:xs[j]=a):(xs.take j).count a<xs.count a:=by
 have e:xs=xs.take j++xs[j]::xs.drop (j+1):=by rw[←List.drop_eq_getElem_cons hj,List.take_append_drop]
 conv=>rhs;rw[e]
 rw[List.count_append,List.count_cons,h]
 simp
theorem Dl{xs:List Int}{i j:Nat}(hij:i<j)(hi:i<xs.length){a:Int}(h:xs[i]=a):(xs.take i).count a<(xs.take j).count a:=by
 have hlt:i<(xs.take j).length:=by rw[List.length_take];omega
 have e2:(xs.take j).take i=xs.take i:=by rw[List.take_take];congr 1;omega
 have:=qk (xs:=xs.take j) hlt (a:=a) (by rw[List.getElem_take];exact h)
 rwa[e2]at this
theorem Uq{xs:List Int}(h:¬(zu xs=0∨zu xs=2)):kr xs≤32768:=by
 obtain⟨h1,h2⟩:=j6 h
 unfold zu at h
 by_cases h3:cn xs=0
 ·have:=JY h3;omega
 ·by_cases h4:kr xs>32768
  ·have:¬xs.length>320:=by omega
   simp[this,h2,h3,h4]at h
  ·omega
theorem Js{xs:List Int}(h:¬(zu xs=0∨zu xs=2)):uniq (zF xs):=by
 obtain⟨hlen,hok⟩:=j6 h
 have hk:=Uq h
 intro s t l v hl hs ht
 have key:∀ {j},(zF xs)[j]? = some (l,v)→∃hj:j<xs.length,xs[j]=(l:Int)∧(v:Int)=tl (cst xs l+(((xs.take j).count (l:Int):Nat):Int)) l:=fun {j} hj=>by
  have hj1:j<xs.length:=by have:=(List.getElem?_eq_some_iff.1 hj).1;rwa[x7]at this
  have hg:=ql (xs:=xs) hj1
  have hb:=hok _ (List.getElem_mem hj1)
  obtain⟨k,hk⟩:=Int.eq_ofNat_of_zero_le hb.1
  obtain⟨l',b',e,hn,_,_⟩:=k6 hok hg
  rw[hj]at hn
  simp only[Option.some.injEq,Prod.mk.injEq]at hn
  obtain⟨rfl,rfl⟩:=hn
  by_cases h1:1≤xs[j]
  ·rw[if_pos h1,Bx hj1 hk]at e
   simp only[Prod.mk.injEq]at e
   have e1:k=l:=by exact_mod_cast e.1
   subst e1
   exact⟨hj1,hk,e.2.symm⟩
  ·rw[if_neg h1]at e
   simp only[Prod.mk.injEq]at e
   have:l=0:=by exact_mod_cast e.1.symm
   omega
 obtain⟨hs1,hs2,hs3⟩:=key hs
 obtain⟨ht1,ht2,ht3⟩:=key ht
 have hl15:l≤15:=by have:=hok _ (List.getElem_mem hs1);omega
 have room:=Iq hk hl hl15
 have c0:=kF (xs:=xs) hlen (l:=l) (by omega)
 have cs:=qk hs1 hs2
 have ct:=qk ht1 ht2
 have inj:=Ml (n:=l) (x:=cst xs l+(((xs.take s).count (l:Int):Nat):Int)) (y:=cst xs l+(((xs.take t).count (l:Int):Nat):Int)) (by omega) (by omega) (by rw[←hs3,←ht3])
 rw[Int.emod_eq_of_lt (by omega) (by omega),Int.emod_eq_of_lt (by omega) (by omega)]at inj
 have hcc:(xs.take s).count (l:Int)=(xs.take t).count (l:Int):=by omega
 rcases Nat.lt_trichotomy s t with h | h | h
 ·have:=Dl h hs1 hs2;omega
 ·exact h
 ·have:=Dl h ht1 ht2;omega
end Go.Proofs.YtnhbgoiihgoneaaGreatDoor
end
section
namespace Go.Proofs.YtnhbgoiihgoneaaGreatDoor
open Go Go.Eng Go.IntWalk
variable {S : Shared} {h : Eng.Heap}
theorem Mm{b:Nat}{T:TypeId}{K:Eng.Heap→Prop}(hs:¬S b)(hK:K (upd h b (.cells (ints .u64 (List.replicate 17 0)) T))) :
  zO S ⟨b,0,none⟩ 0 [Value.int IntKind.u64 0,Value.int IntKind.u64 0,Value.int IntKind.u64 0,Value.int IntKind.u64 0,Value.int IntKind.u64 0,Value.int IntKind.u64 0,Value.int IntKind.u64 0,Value.int IntKind.u64 0,Value.int IntKind.u64 0,Value.int IntKind.u64 0,Value.int IntKind.u64 0,Value.int IntKind.u64 0,Value.int IntKind.u64 0,Value.int IntKind.u64 0,Value.int IntKind.u64 0,Value.int IntKind.u64 0,Value.int IntKind.u64 0]
   (upd h b (Obj.cells (List.replicate 17 (Value.int IntKind.u64 0)).toArray T)) K:=by
 have e:(List.replicate 17 (Value.int IntKind.u64 0)).toArray=ints .u64 (List.replicate 17 0):=by unfold ints;rw[List.map_replicate]
 rw[e]
 refine jS (off:=0) hs (List.replicate 17 (0:Int)) 0 (upd h b (.cells (ints .u64 (List.replicate 17 0)) T)) (List.replicate 17 0) upd_same (by simp) ?_
 rw[yY]
 exact hK
theorem E3{h':Eng.Heap}{b:Nat}{T:TypeId}{cs:List Int}(hb:h' b=some (.cells (ints .u64 cs) T)){x:Nat}{y:Int}(hy:cs[x]? = some y):zd h' (((⟨b,0,none⟩:Addr).add (x*1)).add 0)=some (.int .u64 y):=by
 rw[Nat.mul_one,add_add,ye]
 simp only[zd,hb,ints,Nat.add_zero,List.getElem?_toArray,List.getElem?_map,hy]
 rfl
theorem Ka{h':Eng.Heap}{b:Nat}{T:TypeId}{cs:List Int}{K:Eng.Heap→Prop}(hb:h' b=some (.cells (ints .u64 cs) T))(hs:¬S b){x:Nat}{y:Int}(hx:x<cs.length)(hK:K (upd h' b (.cells (ints .u64 (cs.set x y)) T))) :
  zO S ((⟨b,0,none⟩:Addr).add (x*1)) 0 [.int .u64 y] h' K:=by
 have e0:(⟨b,0,none⟩:Addr).add (x*1)=⟨b,x,none⟩:=by rw[Nat.mul_one,ye]
 rw[e0]
 refine jS (off:=x) hs [y] 0 h' cs hb (by simp;omega) ?_
 have e1:xP cs (x+0) [y]=cs.set x y:=by
  unfold xP
  rw[List.set_eq_take_append_cons_drop,if_pos hx]
  simp
 rw[e1]
 exact hK
theorem CH(hi:Eng.Inv S h){v:Value}{xs:List Int}(O:tI.O h v xs)(L:Pm xs) :
  zc Tryz.prog S kS #[v] h (fun v h'=>Ew.O h' v (yK xs)∧Ew.New h v∧Eng.Sub h h'):=by
 obtain⟨a,c,rfl,hc,hx⟩:=Part.ints O
 refine Gc (vs:=[.slice a xs.length c]) ⟨rfl,trivial⟩ hi ?_
 simp only[Cs,Tr.wp,FI,zG,Ex.ev,coerce,toInt_int,zb,zf,zi,zg,zh,yi,Bd,zI,arith,Cst.val,SV.den,zq,zL,zE,zo,zn,yo,z9,zU,zp,List.flatMap_cons,List.flatMap_nil,List.getD_cons_zero,List.getD_cons_succ,List.getElem?_cons_zero,List.getElem?_cons_succ,decide_eq_true_eq,decide_eq_false_iff_not,List.map_cons,List.map_nil,List.cons_append,List.nil_append,List.append_nil,and_true,if_false,Bool.false_eq_true]
 refine(qB hi a c xs hx).mono ?_
 rintro _ hq ⟨rfl,eq⟩
 rw[eq]
 refine⟨_,rfl,fun hbad=>?_,fun hok1=>?_⟩
 ·have hb:zu xs=0∨zu xs=2:=by simpa using hbad
  intro b hb0
  simp only[yK,if_pos hb]
  exact⟨⟨b,[],_,rfl,upd_same⟩,fun z hz=>by cases hz;exact hb0,Sub.zC hb0⟩
 have hg:¬(zu xs=0∨zu xs=2):=by simpa using hok1
 obtain⟨hlen,hok⟩:=j6 hg
 simp only[yK,if_neg hg]
 intro b1 hb1
 have hs1:¬S b1:=fun hs=>hi b1 hs hb1
 refine Mm hs1 ?_
 refine⟨fun us h'=>∃i:Nat,us=[.int .i64 i]∧i≤xs.length∧h'=upd h b1 (.cells (ints .u64 (Ay xs i)) 104),fun us _=>xs.length-(toInt (us.getD 0 undef)).toNat,⟨0,rfl,by omega,by rw[QF]⟩,?_⟩
 rintro x h' ⟨i,hx1,hi2,rfl⟩
 obtain rfl:x=i:=by simpa using hx1
 have sub1:Eng.Sub h (upd h b1 (.cells (ints .u64 (Ay xs i)) 104)):=Sub.zC hb1
 have w2:IntKind.i64.wrap ((i:Int)+1)=((i+1:Nat):Int):=by rw[i64_in _ (by omega)];omega
 refine⟨fun hlt=>?_,fun hge=>?_⟩
 ·have hi3:i<xs.length:=by omega
  obtain⟨g1,g2⟩:=(hx.sub sub1).cell (List.getElem?_eq_getElem hi3)
  have hb:=hok _ (List.getElem_mem hi3)
  rw[w2]
  refine⟨by simpa using g2,by omega,hlt,xs[i],by simpa[add_add]using g1,fun hpos=>?_,fun hnp _=>?_⟩
  ·obtain⟨k,hk⟩:=Int.eq_ofNat_of_zero_le hb.1
   have hk1:1≤k∧k<17:=by omega
   have hcl:=BE (a:=(k:Int)) (i:=i) hlen
   have hg:=CE (xs:=xs) (i:=i) hk1.2
   rw[if_neg (by omega)]at hg
   rw[hk,Int.toNat_natCast]
   refine⟨by omega,by omega,_,E3 upd_same hg,by omega,by omega,?_⟩
   refine Ka upd_same hs1 (by rw[CC];omega) fun _=>?_
   rw[u64_in _ (by omega),yY,←QH hi3 hk hk1.1 hk1.2]
   exact⟨⟨i+1,rfl,by omega,rfl⟩,by simp only[List.getD_cons_zero,toInt_int];omega⟩
  ·exact⟨⟨i+1,rfl,by omega,by rw[QG hi3 (by omega)]⟩,by simp only[List.getD_cons_zero,toInt_int];omega⟩
 obtain rfl:i=xs.length:=by omega
 obtain⟨h1,hh1⟩:∃h1,h1=upd h b1 (.cells (ints .u64 (Ay xs xs.length)) 104):=⟨_,rfl⟩
 rw[←hh1]at sub1 ⊢
 intro b2 hb2
 have hb20:=zN sub1 hb2
 have hs2:¬S b2:=fun hs=>hi b2 hs hb20
 have hne:b1≠b2:=fun e=>by rw[hh1,←e,upd_same]at hb2;cases hb2
 refine Mm hs2 ?_
 refine⟨fun us h'=>∃l:Nat,us=[.int .i64 l]∧1≤l∧l≤16∧h'=upd h1 b2 (.cells (ints .u64 (nxL xs l)) 104),fun us _=>16-(toInt (us.getD 0 undef)).toNat,⟨1,rfl,by omega,by omega,by rw[UU]⟩,?_⟩
 rintro x h' ⟨l,hx1,hl1,hl2,rfl⟩
 obtain rfl:x=l:=by simpa using hx1
 have w2:IntKind.i64.wrap ((l:Int)+1)=((l+1:Nat):Int):=by rw[i64_in _ (by omega)];omega
 refine⟨fun hle=>?_,fun hgt=>?_⟩
 ·have w3:IntKind.i64.wrap ((l:Int)-1)=((l-1:Nat):Int):=by rw[i64_in _ (by omega)];omega
  rw[w2,w3]
  have gn:=GX (xs:=xs) (i:=l) (l:=l-1) (by omega)
  rw[if_pos (by omega)]at gn
  have gc:=CE (xs:=xs) (i:=xs.length) (l:=l-1) (by omega)
  rw[List.take_length]at gc
  have hc1:upd h1 b2 (.cells (ints .u64 (nxL xs l)) 104) b1=some (.cells (ints .u64 (Ay xs xs.length)) 104):=by rw[upd_ne hne,hh1,upd_same]
  refine⟨by omega,by omega,_,E3 upd_same gn,by omega,by omega,_,E3 hc1 gc,by omega,by omega,?_⟩
  refine Ka upd_same hs2 (by rw[Ey];omega) ?_
  have hs:=kF (xs:=xs) hlen (l:=l) (by omega)
  have hs0:=kF (xs:=xs) hlen (l:=l-1) (by omega)
  have hcs:cst xs l=2*(cst xs (l-1)+(if l-1=0 then 0 else((xs.count ((l-1:Nat):Int):Nat):Int))):=by
   conv=>lhs;rw[show l=l-1+1 by omega,cst]
  have hcc:0≤(if l-1=0 then(0:Int)else((xs.count ((l-1:Nat):Int):Nat):Int)):=by split <;> omega
  have m1:min (Int.toNat 1) IntKind.u64.bits=1:=by decide
  rw[m1,Int.pow_one,u64_in (cst xs (l-1)+_) (by omega),u64_in _ (by omega),Int.mul_comm,←hcs,yY,Int.toNat_natCast,←SU (by omega)]
  exact⟨⟨l+1,rfl,by omega,by omega,rfl⟩,by simp only[List.getD_cons_zero,toInt_int];omega⟩
 obtain rfl:l=16:=by omega
 have wl:IntKind.i64.wrap (xs.length:Int)=xs.length:=i64_in _ (by omega)
 have sub2:Eng.Sub h (upd h1 b2 (.cells (ints .u64 (nxL xs 16)) 104)):=sub1.trans (Sub.zC hb2)
 obtain⟨h2,hh2⟩:∃h2,h2=upd h1 b2 (.cells (ints .u64 (nxL xs 16)) 104):=⟨_,rfl⟩
 rw[←hh2]at sub2 ⊢
 rw[wl]
 refine⟨by omega,by omega,by omega,fun b3 hb3=>?_⟩
 have hb30:=zN sub2 hb3
 have hne2:b3≠b2:=fun e=>by rw[hh2,e,upd_same]at hb3;cases hb3
 rw[Int.toNat_natCast,Fx]
 have s3:Eng.Sub h (upd h2 b3 (.cells (Eng.yF (List.replicate xs.length (0,0))) 79)):=sub2.trans (Sub.zC hb3)
 refine⟨fun us h'=>∃s:Nat,us=[.int .i64 s]∧s≤xs.length∧xr h' (.slice (some ⟨b3,0,none⟩) xs.length xs.length) (Az xs s)∧h' b2=some (.cells (ints .u64 (nxS xs s)) 104)∧Eng.Sub h h',fun us _=>xs.length-(toInt (us.getD 0 undef)).toNat,⟨0,rfl,by omega,?_,?_,s3⟩,?_⟩
 ·rw[QI]
  have:=xr.made (h:=h2) (b:=b3) (T:=79) (List.replicate xs.length ((0:Int),(0:Int)))
  rwa[List.length_replicate]at this
 ·rw[upd_ne hne2.symm,hh2,upd_same,SW]
 rintro x h' ⟨s,hx1,hi2,OW,hn,sb⟩
 obtain rfl:x=s:=by simpa using hx1
 have w2:IntKind.i64.wrap ((s:Int)+1)=((s+1:Nat):Int):=by rw[i64_in _ (by omega)];omega
 refine⟨fun hlt=>?_,fun hge=>?_⟩
 ·have hi3:s<xs.length:=by omega
  obtain⟨g1,g2⟩:=(hx.sub sb).cell (List.getElem?_eq_getElem hi3)
  have hb:=hok _ (List.getElem_mem hi3)
  rw[w2]
  refine⟨by simpa using g2,by omega,hlt,xs[s],by simpa[add_add]using g1,fun hpos=>?_,fun hnp _=>?_⟩
  ·obtain⟨k,hk⟩:=Int.eq_ofNat_of_zero_le hb.1
   have hk1:1≤k∧k<16:=by omega
   have hcl:=BE (a:=(k:Int)) (i:=s) hlen
   have hs:=kF (xs:=xs) hlen (l:=k) (by omega)
   have hg:=Od (xs:=xs) (i:=s) hk1.2 hk1.1
   rw[hk,Int.toNat_natCast]
   refine⟨by omega,by omega,_,E3 hn hg,?_⟩
   refine(SS (hi.sub sb) _ k (by omega) (by omega) (by omega)).mono ?_
   rintro _ hq ⟨rfl,eq⟩
   rw[eq]
   refine⟨_,rfl,?_⟩
   have hno:∀b,ze (.slice (some ⟨b3,0,none⟩) xs.length xs.length)=some b→¬S b:=fun z hz hs=>by cases hz;exact hi b3 hs hb30
   obtain⟨o1,o2,o3,o4⟩:=Oe OW hno (i:=s) (by rw[CF];exact hi3) (k:Int) (tl (cst xs k+(((xs.take s).count (k:Int):Nat):Int)) k)
   rw[Int.toNat_natCast]
   refine⟨by simp,by omega,hlt,o1,o2,?_⟩
   have hn2:=(o4 b2 (fun e=>hne2 (by cases e;rfl))).trans hn
   have sb2:Eng.Sub h (zy (zy h' ((((some (⟨b3,0,none⟩:Addr)).getD default).add (s*2)).add 0) (.int .i64 k)) ((((some (⟨b3,0,none⟩:Addr)).getD default).add (s*2)).add (0+1)) (.int .u64 (tl (cst xs k+(((xs.take s).count (k:Int):Nat):Int)) k))):=fun y o hy=>by
    rw[o4 y (fun e=>by cases e;rw[hb30]at hy;cases hy)];exact sb y o hy
   refine⟨by omega,by omega,_,E3 hn2 hg,by omega,by omega,?_⟩
   refine Ka hn2 hs2 (by rw[GY];omega) fun _=>?_
   rw[u64_in _ (by omega),←SY hi3 hk hk1.1 hk1.2]
   have hcode:qj xs s=((k:Int),tl (cst xs k+(((xs.take s).count (k:Int):Nat):Int)) k):=by
    unfold qj
    rw[kX hi3,hk,Int.toNat_natCast]
   refine⟨⟨s+1,rfl,by omega,?_,upd_same,fun y o hy=>?_⟩,by simp only[List.getD_cons_zero,toInt_int];omega⟩
   ·rw[QL hi3 (by omega),hcode]
    exact o3.keep fun z hz=>upd_ne fun e=>hne2 (by cases hz;exact e)
   ·rw[upd_ne (fun e=>by rw[e,hb20]at hy;cases hy)];exact sb2 y o hy
  ·exact⟨⟨s+1,rfl,by omega,by rw[QK hi3 (by omega)];exact OW,by rw[SX hi3 (by omega)];exact hn,sb⟩,by simp only[List.getD_cons_zero,toInt_int];omega⟩
 obtain rfl:s=xs.length:=by omega
 rw[QJ]at OW
 exact⟨OW,fun z hz=>by cases hz;exact hb30,sb⟩
theorem Ir(hi:Eng.Inv S h){v:Value}{xs:List Int}(O:tI.O h v xs)(L:Pm xs) :
  zc Tryz.prog S wR #[v] h (fun v h'=>Ew.O h' v (yK xs)∧Ew.New h v∧Eng.Sub h h'):=by
 obtain⟨a,c,rfl,hc,hx⟩:=Part.ints O
 refine Gd (vs:=[.slice a xs.length c]) ⟨rfl,trivial⟩ hi ?_
 simp only[Ct,Tr.wp,zG,Ex.ev,coerce,toInt_int,zb,zf,zi,zg,zh,yi,Bd,zI,arith,Cst.val,SV.den,zq,zL,zE,zo,zn,z9,zU,zp,List.flatMap_cons,List.flatMap_nil,List.getD_cons_zero,List.getD_cons_succ,List.getElem?_cons_zero,List.getElem?_cons_succ,decide_eq_true_eq,decide_eq_false_iff_not,List.map_cons,List.map_nil,List.cons_append,List.nil_append,List.append_nil,and_true,if_false,Bool.false_eq_true]
 intro b0 hb0
 have e0:(Obj.cells #[] 79)=.cells (Eng.yF []) 79:=rfl
 have s0:Eng.Sub h (upd h b0 (.cells (Eng.yF []) 79)):=Sub.zC hb0
 refine(Jr (hi.sub s0) a c xs (hx.sub s0)).mono ?_
 rintro _ hq ⟨rfl,eq⟩
 rw[eq]
 refine⟨_,rfl,fun hbad=>?_,fun hok1=>?_⟩
 ·have hb:zu xs=0∨zu xs=2:=by simpa using hbad
  simp only[yK,if_pos hb]
  exact⟨⟨b0,[],_,rfl,upd_same⟩,fun z hz=>by cases hz;exact hb0,s0⟩
 have hg:¬(zu xs=0∨zu xs=2):=by simpa using hok1
 obtain⟨hlen,hok⟩:=j6 hg
 simp only[yK,if_neg hg]
 refine⟨fun us h'=>∃(a:Option Addr) (c i:Nat),us=[.slice a i c,.int .i64 i]∧i≤xs.length∧xr h' (.slice a i c) (List.replicate i (0,0))∧Eng.New h (.slice a i c)∧Eng.Sub h h',fun us _=>xs.length-(toInt (us.getD 1 undef)).toNat,⟨_,_,0,rfl,by omega,xr.made [],New.of hb0,s0⟩,?_⟩
 rintro a1 l1 c1 x h1 ⟨a1',c1',i,hx1,hi2,OW,N1,s1⟩
 obtain⟨⟨rfl,rfl,rfl⟩,rfl⟩:(a1=a1'∧l1=i∧c1=c1')∧x=i:=by simpa using hx1
 refine⟨fun hlt=>?_,fun hge=>?_⟩
 ·intro b hb
  have s2:Eng.Sub h1 (upd h1 b (.cells (Eng.yF [(0,0)]) 79)):=Sub.zC hb
  have OW2:xr (upd h1 b (.cells (Eng.yF [(0,0)]) 79)) (.slice a1 l1 c1) (List.replicate l1 (0,0)):=OW.keep fun z hz=>upd_ne fun e=>by
   rw[e]at hz;exact OW.held b hz hb
  refine QC hi (s1.trans s2) OW2 N1 (p:=(0,0)) (kv.of (sp:=[]) upd_same) (by rw[List.length_replicate];omega) fun v' h2 o2 n2 s3 _ _=>?_
  obtain⟨a2,c2,rfl,_,_⟩:=o2.yF
  have e1:List.replicate l1 ((0:Int),(0:Int))++[(0,0)]=List.replicate (l1+1) (0,0):=by rw[List.replicate_succ']
  have w2:IntKind.i64.wrap ((l1:Int)+1)=((l1+1:Nat):Int):=by rw[i64_in _ (by omega)];omega
  rw[e1]at o2 n2
  simp only[zg,zf,zi,e1,w2,List.length_replicate]
  rw[List.length_replicate]at o2 n2
  exact⟨⟨a2,c2,l1+1,rfl,by omega,o2,n2,s3⟩,by simp only[List.getD_cons_succ,List.getD_cons_zero,toInt_int];omega⟩
 obtain rfl:l1=xs.length:=by omega
 have hno:∀b,ze (.slice a1 xs.length c1)=some b→¬S b:=fun z hz hs=>hi z hs (N1 z hz)
 refine⟨fun us h'=>∃l:Nat,us=[.int .i64 (cst xs (l-1)+(if l=1 then 0 else((xs.count ((l-1:Nat):Int):Nat):Int))),.int .i64 l]∧1≤l∧l≤16∧xr h' (.slice a1 xs.length c1) (qw xs l 0)∧Eng.Sub h h',fun us _=>16-(toInt (us.getD 1 undef)).toNat,⟨1,by simp[cst],by omega,by omega,by rw[QM];exact OW,s1⟩,?_⟩
 rintro x y h2 ⟨l,hx2,hl1,hl2,OW2,s2⟩
 obtain⟨rfl,rfl⟩:x=cst xs (l-1)+(if l=1 then 0 else((xs.count ((l-1:Nat):Int):Nat):Int))∧y=l:=by simpa using hx2
 refine⟨fun hle=>?_,fun hgt=>?_⟩
 ·have hs:=kF (xs:=xs) hlen (l:=l) (by omega)
  have hs0:=kF (xs:=xs) hlen (l:=l-1) (by omega)
  have hcs:cst xs l=2*(cst xs (l-1)+(if l=1 then 0 else((xs.count ((l-1:Nat):Int):Nat):Int))):=by
   have e1:(if l=1 then(0:Int)else((xs.count ((l-1:Nat):Int):Nat):Int))=(if l-1=0 then(0:Int)else((xs.count ((l-1:Nat):Int):Nat):Int)):=by
    by_cases h:l=1
    ·rw[if_pos h,if_pos (by omega)]
    ·rw[if_neg h,if_neg (by omega)]
   rw[e1]
   conv=>lhs;rw[show l=l-1+1 by omega,cst]
  have w1:IntKind.i64.wrap (2*(cst xs (l-1)+(if l=1 then 0 else((xs.count ((l-1:Nat):Int):Nat):Int))))=cst xs l:=by rw[←hcs];exact i64_in _ (by omega)
  rw[w1]
  refine⟨fun us h'=>∃i:Nat,us=[.int .i64 (cst xs l+(((xs.take i).count (l:Int):Nat):Int)),.int .i64 i]∧i≤xs.length∧xr h' (.slice a1 xs.length c1) (qw xs l i)∧Eng.Sub h h',fun us _=>xs.length-(toInt (us.getD 1 undef)).toNat,⟨0,by simp,by omega,OW2,s2⟩,?_⟩
  rintro x y h3 ⟨i,hx3,hi2,OW3,s3⟩
  obtain⟨rfl,rfl⟩:x=cst xs l+(((xs.take i).count (l:Int):Nat):Int)∧y=i:=by simpa using hx3
  have hcl:=BE (a:=(l:Int)) (i:=i) hlen
  refine⟨fun hlt=>?_,fun hge=>?_⟩
  ·have hi3:i<xs.length:=by omega
   obtain⟨g1,g2⟩:=(hx.sub s3).cell (List.getElem?_eq_getElem hi3)
   have w2:IntKind.i64.wrap ((i:Int)+1)=((i+1:Nat):Int):=by rw[i64_in _ (by omega)];omega
   have hcn:=kW hi3 (l:Int)
   refine⟨by simpa using g2,by omega,hlt,xs[i],by simpa[add_add]using g1,fun heq=>?_,fun hneq _=>?_⟩
   ·have heq:xs[i]=(l:Int):=by simpa using heq
    refine(SR (hi.sub s3) _ l (by omega) (by omega) (by omega)).mono ?_
    rintro _ hq ⟨rfl,eq⟩
    rw[eq]
    obtain⟨o1,o2,o3,o4⟩:=Oe OW3 hno (i:=i) (by rw[CG];exact hi3) (l:Int) (tl (cst xs l+(((xs.take i).count (l:Int):Nat):Int)) l)
    have ha:a1.isSome=true:=by obtain⟨_,_,_,e,_⟩:=OW;simp only[Value.slice.injEq]at e;rw[e.1];rfl
    have hcode:qj xs i=((l:Int),tl (cst xs l+(((xs.take i).count (l:Int):Nat):Int)) l):=by
     unfold qj
     rw[kX hi3,heq,Int.toNat_natCast]
    refine⟨_,rfl,by simpa using ha,by omega,hlt,?_⟩
    rw[Int.toNat_natCast]
    refine⟨o1,o2,fun _=>?_⟩
    have w3:IntKind.i64.wrap (cst xs l+(((xs.take i).count (l:Int):Nat):Int)+1)=cst xs l+(((xs.take (i+1)).count (l:Int):Nat):Int):=by
     rw[i64_in _ (by omega),hcn,if_pos heq];omega
    rw[w2,w3]
    refine⟨⟨i+1,rfl,by omega,?_,fun y o hy=>?_⟩,by simp only[List.getD_cons_succ,List.getD_cons_zero,toInt_int];omega⟩
    ·rw[QQ hi3 heq,hcode];exact o3
    ·rw[o4 y (fun e=>by rw[N1 y e]at hy;cases hy)];exact s3 y o hy
   ·have hneq:xs[i]≠(l:Int):=by simpa using hneq
    have w3:cst xs l+(((xs.take i).count (l:Int):Nat):Int)=cst xs l+(((xs.take (i+1)).count (l:Int):Nat):Int):=by
     rw[hcn,if_neg hneq];rfl
    rw[w2]
    exact⟨⟨i+1,by rw[w3],by omega,by rw[QP hi3 hneq];exact OW3,s3⟩,by simp only[List.getD_cons_succ,List.getD_cons_zero,toInt_int];omega⟩
  ·obtain rfl:i=xs.length:=by omega
   have w2:IntKind.i64.wrap ((l:Int)+1)=((l+1:Nat):Int):=by rw[i64_in _ (by omega)];omega
   rw[w2,List.take_length]
   rw[QN hl1]at OW3
   exact⟨⟨l+1,by rw[Nat.add_sub_cancel,if_neg (by omega)],by omega,by omega,OW3,s3⟩,by simp only[List.getD_cons_succ,List.getD_cons_zero,toInt_int];omega⟩
 ·obtain rfl:l=16:=by omega
  rw[QO hok]at OW2
  exact⟨OW2,N1,s2⟩
end Go.Proofs.YtnhbgoiihgoneaaGreatDoor
end
section
namespace Go.Proofs.YtnhbgoiihgoneaaGreatDoor
open Go Go.Eng Go.IntWalk
variable {S : Shared} {h : Eng.Heap}
def Wf(r:Int×Int×Int):Value:=.agg #[.int .i64 r.1,.int .i64 r.2.1,.int .i64 r.2.2]
theorem Wh{cs:List (Nat×Nat)}{l v M:Nat}(hM:∀c∈cs,c.1≤M)(h:Ec cs l v):l<M:=by
 obtain⟨c,hc,h1,_⟩:=h
 have:=hM c hc
 omega
theorem Oi{cs:List (Nat×Nat)}{s l v L β:Nat}(hs:cs[s]? = some (L,β)):Em cs (s+1) l v↔Em cs s l v∨(l<L∧β%2^l=v):=by
 constructor
 ·rintro⟨t,c,h1,h2,h3⟩
  by_cases h:t=s
  ·subst h;rw[hs]at h2;have:=Option.some.inj h2;subst this;exact .inr h3
  ·exact .inl ⟨t,c,by omega,h2,h3⟩
 ·rintro(⟨t,c,h1,h2,h3⟩ | h3)
  ·exact⟨t,c,by omega,h2,h3⟩
  ·exact⟨s,_,by omega,hs,h3⟩
end Go.Proofs.YtnhbgoiihgoneaaGreatDoor
end
section
namespace Go.Proofs.YtnhbgoiihgoneaaGreatDoor
open Go Go.Eng Go.IntWalk
variable {S : Shared} {h : Eng.Heap}
structure Rd where
 i:Int
 k:Int
def tk(bs:List Int)(n:Nat)(r:Rd):Rd×Int:=
 if r.k=0 then if r.i+n>8*(bs.length:Int)then(⟨r.i,2⟩,0)else(⟨r.i+n,0⟩,yw bs r.i.toNat n)else(r,0)
def bd(w:Bool)(r:Rd):Rd:=if r.k=0∧w=true then⟨r.i,3⟩else r
def look(bs:List Int)(i:Nat):Nat:=min 15 (8*bs.length-i)
def nxB(bs:List Int)(cs:List (Nat×Nat))(i:Nat):Int×Int×Int:=nxt cs (yw bs i (look bs i)).toNat (look bs i+1) 0
def sy(bs:List Int)(cs:List (Nat×Nat))(r:Rd):Rd×Int:=
 if r.k=0 then(⟨r.i+(nxB bs cs r.i.toNat).2.2,if(nxB bs cs r.i.toNat).1=2 then 2 else if(nxB bs cs r.i.toNat).1=0 then 3 else 0⟩,(nxB bs cs r.i.toNat).2.1)else(r,0)
def okR(bs:List Int)(r:Rd):Prop:=r.k=0→0≤r.i∧r.i≤8*(bs.length:Int)
theorem yU{bs:List Int}{n:Nat}{r:Rd}(H:okR bs r):okR bs (tk bs n r).1:=by
 unfold tk
 by_cases h0:r.k=0
 ·rw[if_pos h0]
  have:=H h0
  split
  ·intro h;cases h
  ·intro _;simp only;omega
 ·rw[if_neg h0];exact H
theorem yD{bs:List Int}{n:Nat}{r:Rd}:0≤(tk bs n r).2∧(tk bs n r).2<2^n:=by
 have hp:(0:Int)<2^n:=Int.pow_pos (by decide)
 unfold tk
 split
 ·split
  ·exact⟨by simp,hp⟩
  ·exact Cp
 ·exact⟨by simp,hp⟩
theorem Fa{bs:List Int}{n:Nat}{r:Rd}(h:(tk bs n r).1.k=0):r.k=0:=by
 unfold tk at h
 by_cases h0:r.k=0
 ·exact h0
 ·rw[if_neg h0]at h;exact absurd h h0
theorem Bf{bs:List Int}{w:Bool}{r:Rd}(H:okR bs r):okR bs (bd w r):=by
 unfold bd
 split
 ·intro h;cases h
 ·exact H
theorem Pn{w:Bool}{r:Rd}:(bd w r).k=0↔r.k=0∧w=false:=by
 unfold bd
 split
 ·rename_i h;simp[h.2]
 ·rename_i h
  by_cases h0:r.k=0
  ·simp only[h0,true_and]at h ⊢;simpa using h
  ·simp[h0]
theorem X5{cs:List (Nat×Nat)}(hM:∀c∈cs,c.1≤15){l v:Nat}(h:Ec cs l v):l<15:=Wh hM h
theorem KH{cs:List (Nat×Nat)}{b:Nat}:∀ {f l:Nat},True →
  let x:=nxt cs b f l
  (x.1=1∧0≤x.2.1∧x.2.1<cs.length∧(l:Int)≤x.2.2∧x.2.2+1≤(l:Int)+f∧1≤x.2.2)∨((x.1=0∨x.1=2)∧x.2.1=0∧x.2.2=0)
 | 0,l,hy=>.inr ⟨.inr rfl,rfl,rfl⟩
 | f+1,l,hy=>by
  simp only[nxt]
  split
  ·rename_i hne
   refine .inl ⟨rfl,?_⟩
   obtain⟨s,hs,_,hl,e⟩:=Ez hne
   simp only[e]
   refine⟨by omega,by omega,by omega,by push_cast;omega,by omega⟩
  ·split
   ·rcases KH (cs:=cs) (b:=b) (f:=f) (l:=l+1) hy with⟨h1,h2,h3,h4,h5,h6⟩ | h
    ·exact .inl ⟨h1,h2,h3,by push_cast at h4;omega,by push_cast at h5 ⊢;omega,h6⟩
    ·exact .inr h
   ·exact .inr ⟨.inl rfl,rfl,rfl⟩
theorem By{bs:List Int}{cs:List (Nat×Nat)}{i:Nat} :
  ((nxB bs cs i).1=1∧0≤(nxB bs cs i).2.1∧(nxB bs cs i).2.1<cs.length∧1≤(nxB bs cs i).2.2∧(nxB bs cs i).2.2≤look bs i)∨(((nxB bs cs i).1=0∨(nxB bs cs i).1=2)∧(nxB bs cs i).2.1=0∧(nxB bs cs i).2.2=0):=by
 rcases KH (cs:=cs) (b:=(yw bs i (look bs i)).toNat) (f:=look bs i+1) (l:=0) trivial with⟨h1,h2,h3,h4,h5,h6⟩ | h
 ·exact .inl ⟨h1,h2,h3,h6,by unfold nxB;omega⟩
 ·exact .inr h
theorem L0{bs:List Int}{cs:List (Nat×Nat)}{r:Rd}(H:okR bs r):okR bs (sy bs cs r).1:=by
 unfold sy
 by_cases h0:r.k=0
 ·rw[if_pos h0]
  have:=H h0
  intro hk
  simp only at hk ⊢
  rcases By (bs:=bs) (cs:=cs) (i:=r.i.toNat)with⟨h1,h2,h3,h4,h5⟩ | ⟨_,_,h⟩
  ·unfold look at h5;omega
  ·omega
 ·rw[if_neg h0];exact H
theorem Yj{bs:List Int}{cs:List (Nat×Nat)}{r:Rd}(h:(sy bs cs r).1.k=0):r.k=0∧r.i+1≤(sy bs cs r).1.i∧0≤(sy bs cs r).2∧(sy bs cs r).2<cs.length:=by
 unfold sy at h ⊢
 by_cases h0:r.k=0
 ·rw[if_pos h0]at h ⊢
  simp only at h ⊢
  rcases By (bs:=bs) (cs:=cs) (i:=r.i.toNat)with⟨h1,h2,h3,h4,h5⟩ | ⟨h1,_,_⟩
  ·exact⟨h0,by omega,h2,h3⟩
  ·rcases h1 with h1 | h1 <;> simp[h1]at h
 ·rw[if_neg h0]at h;exact absurd h h0
structure CodesAt(h:Eng.Heap)(a:Option Addr)(l:Nat)(cs:List (Nat×Nat)):Prop where
 hx:∃ps:List (Int×Int),kv h a ps∧ps.length=l∧cs.length=ps.length∧∀(j:Nat) p,ps[j]? = some p→∃l b:Nat,p=((l:Int),(b:Int))∧cs[j]? = some (l,b)∧l≤15∧b<2^l
 un:uniq cs
 ll:l≤1000
theorem CodesAt.sub{h':Eng.Heap}{a:Option Addr}{l:Nat}{cs:List (Nat×Nat)}(H:CodesAt h a l cs)(s:Eng.Sub h h'):CodesAt h' a l cs:=by
 obtain⟨⟨ps,h1,h2⟩,h3,h4⟩:=H
 exact⟨⟨ps,h1.sub s,h2⟩,h3,h4⟩
theorem UW{bs:List Int}{i:Nat}:look bs i≤15:=by unfold look;omega
end Go.Proofs.YtnhbgoiihgoneaaGreatDoor
end
section
namespace Go.Proofs.YtnhbgoiihgoneaaGreatDoor
open Go Go.Eng Go.IntWalk
variable {S : Shared} {h : Eng.Heap}
theorem Mn{cs:List (Nat×Nat)}:∀m,Ym cs m 0 0=0
 | 0=>rfl
 | m+1=>by rw[Ym,if_neg (fun h=>by omega)];exact Mn m
def rp(bs:List Int)(r:Rd)(all:List Int)(x:Int):Rd×List Int:=
 if x=16 then((tk bs 2 (bd (all.length==0) r)).1,if(tk bs 2 (bd (all.length==0) r)).1.k=0 then all++List.replicate ((tk bs 2 (bd (all.length==0) r)).2+3).toNat (all.getD (all.length-1) 0)else all)
 else if x=17 then((tk bs 3 r).1,if(tk bs 3 r).1.k=0 then all++List.replicate ((tk bs 3 r).2+3).toNat 0 else all)
 else if x=18 then((tk bs 7 r).1,if(tk bs 7 r).1.k=0 then all++List.replicate ((tk bs 7 r).2+11).toNat 0 else all)
 else(r,if r.k=0 then all++[x]else all)
theorem X6{bs:List Int}{r:Rd}{all:List Int}{x:Int}(H:okR bs r):okR bs (rp bs r all x).1:=by
 unfold rp
 split
 ·exact yU (Bf H)
 ·split
  ·exact yU H
  ·split
   ·exact yU H
   ·exact H
theorem Wi{bs:List Int}{r:Rd}{all:List Int}{x:Int}:all.length≤(rp bs r all x).2.length∧(rp bs r all x).2.length≤all.length+138∧((rp bs r all x).1.k=0→all.length<(rp bs r all x).2.length):=by
 have h2:=yD (bs:=bs) (n:=2) (r:=bd (all.length==0) r)
 have h3:=yD (bs:=bs) (n:=3) (r:=r)
 have h7:=yD (bs:=bs) (n:=7) (r:=r)
 have e2:(2:Int)^2=4:=by decide
 have e3:(2:Int)^3=8:=by decide
 have e7:(2:Int)^7=128:=by decide
 unfold rp
 split
 ·split
  ·simp only[List.length_append,List.length_replicate];exact⟨by omega,by omega,fun _=>by omega⟩
  ·rename_i hk;exact⟨Nat.le_refl _,Nat.le_add_right _ _,fun h=>absurd h hk⟩
 ·split
  ·split
   ·simp only[List.length_append,List.length_replicate];exact⟨by omega,by omega,fun _=>by omega⟩
   ·rename_i hk;exact⟨Nat.le_refl _,Nat.le_add_right _ _,fun h=>absurd h hk⟩
  ·split
   ·split
    ·simp only[List.length_append,List.length_replicate];exact⟨by omega,by omega,fun _=>by omega⟩
    ·rename_i hk;exact⟨Nat.le_refl _,Nat.le_add_right _ _,fun h=>absurd h hk⟩
   ·split
    ·simp only[List.length_append,List.length_singleton];exact⟨by omega,by omega,fun _=>by omega⟩
    ·rename_i hk;exact⟨Nat.le_refl _,Nat.le_add_right _ _,fun h=>absurd h hk⟩
def lg1(bs:List Int)(cs:List (Nat×Nat))(tot:Nat)(r:Rd)(all:List Int):Rd×List Int:=
 if(sy bs cs r).1.k=0 then(bd (decide (tot<(rp bs (sy bs cs r).1 all (sy bs cs r).2).2.length)) (rp bs (sy bs cs r).1 all (sy bs cs r).2).1,(rp bs (sy bs cs r).1 all (sy bs cs r).2).2)else((sy bs cs r).1,all)
def lg(bs:List Int)(cs:List (Nat×Nat))(tot:Nat)(r:Rd)(all:List Int):Rd×List Int:=
 if h:r.k=0∧all.length<tot then
  if h2:all.length<(lg1 bs cs tot r all).2.length then lg bs cs tot (lg1 bs cs tot r all).1 (lg1 bs cs tot r all).2 else lg1 bs cs tot r all
 else(r,all)
termination_by tot-all.length
theorem QR{bs:List Int}{cs:List (Nat×Nat)}{tot:Nat}{r:Rd}{all:List Int}(H:okR bs r):okR bs (lg1 bs cs tot r all).1:=by
 unfold lg1
 split
 ·exact Bf (X6 (L0 H))
 ·exact L0 H
theorem E4{bs:List Int}{cs:List (Nat×Nat)}{tot:Nat}{r:Rd}{all:List Int}:all.length≤(lg1 bs cs tot r all).2.length∧(lg1 bs cs tot r all).2.length≤all.length+138∧((lg1 bs cs tot r all).1.k=0→all.length<(lg1 bs cs tot r all).2.length∧(lg1 bs cs tot r all).2.length≤tot):=by
 have R:=Wi (bs:=bs) (r:=(sy bs cs r).1) (all:=all) (x:=(sy bs cs r).2)
 unfold lg1
 split
 ·refine⟨R.1,R.2.1,fun h=>?_⟩
  obtain⟨h1,h2⟩:=Pn.1 h
  exact⟨R.2.2 h1,by simpa using h2⟩
 ·rename_i hk;exact⟨by simp,by simp,fun h=>absurd h hk⟩
theorem GZ{bs:List Int}{cs:List (Nat×Nat)}{tot:Nat}{r:Rd}{all:List Int}(h:r.k=0∧all.length<tot):lg bs cs tot r all=lg bs cs tot (lg1 bs cs tot r all).1 (lg1 bs cs tot r all).2:=by
 rw[lg,dif_pos h]
 split
 ·rfl
 ·rename_i h2
  have:=E4 (bs:=bs) (cs:=cs) (tot:=tot) (r:=r) (all:=all)
  have hk:(lg1 bs cs tot r all).1.k≠0:=fun e=>h2 (this.2.2 e).1
  rw[lg,dif_neg (fun e=>hk e.1)]
theorem k8{bs:List Int}{cs:List (Nat×Nat)}{tot:Nat}{r:Rd}{all:List Int}(h:¬(r.k=0∧all.length<tot)):lg bs cs tot r all=(r,all):=by rw[lg,dif_neg h]
def ord:List Nat:=[16,17,18,0,8,7,9,6,10,5,11,4,12,3,13,2,14,1,15]
def sm(bs:List Int)(r:Rd):Nat→Rd×List Int
 | 0=>(r,List.replicate 19 0)
 | k+1=>((tk bs 3 (sm bs r k).1).1,(sm bs r k).2.set (ord.getD k 0) (tk bs 3 (sm bs r k).1).2)
theorem Po{bs:List Int}{r:Rd}(H:okR bs r):∀ {k:Nat},okR bs (sm bs r k).1
 | 0=>H
 | k+1=>yU (Po H)
theorem Mo{bs:List Int}{r:Rd}:∀ {k:Nat},(sm bs r k).2.length=19
 | 0=>by simp[sm]
 | k+1=>by simp only[sm,List.length_set];exact Mo
def jK(bs:List Int)(r:Rd):Rd:=bd (decide ((tk bs 5 r).2+257>286)) (tk bs 5 r).1
def A0(bs:List Int)(r:Rd):Rd:=bd (decide ((tk bs 5 (jK bs r)).2+1>30)) (tk bs 5 (jK bs r)).1
def kg(bs:List Int)(r:Rd):Rd×List Int:=sm bs (tk bs 4 (A0 bs r)).1 ((tk bs 4 (A0 bs r)).2.toNat+4)
def Jt(bs:List Int)(r:Rd):Rd:=bd (zu (kg bs r).2 != 1) (kg bs r).1
def CI(bs:List Int)(r:Rd):Nat:=((tk bs 5 r).2+257).toNat
def Ha(bs:List Int)(r:Rd):Nat:=((tk bs 5 (jK bs r)).2+1).toNat
def qY(bs:List Int)(r:Rd):Rd×List Int:=lg bs (zF (kg bs r).2) (CI bs r+Ha bs r) (Jt bs r) []
def Kb(A B:List Int):Bool:=(A.getD 256 0==0) || !(zu A==1||zu A==4) || !(zu B==1||zu B==4||zu B==5)
def yy(bs:List Int)(r:Rd):Rd×List Int×List Int:=
 if(qY bs r).1.k=0 then(bd (Kb ((qY bs r).2.take (CI bs r)) ((qY bs r).2.drop (CI bs r))) (qY bs r).1,(qY bs r).2.take (CI bs r),(qY bs r).2.drop (CI bs r))
 else((qY bs r).1,[],[])
theorem Ur{bs:List Int}{cs:List (Nat×Nat)}{tot:Nat}:∀ {n:Nat} {r:Rd} {all:List Int},tot-all.length≤n→okR bs r→okR bs (lg bs cs tot r all).1
 | 0,r,all,hn,H=>by rw[k8 (fun e=>by omega)];exact H
 | n+1,r,all,hn,H=>by
  by_cases h:r.k=0∧all.length<tot
  ·rw[GZ h]
   by_cases hk:(lg1 bs cs tot r all).1.k=0
   ·have:=(E4 (bs:=bs) (cs:=cs) (tot:=tot) (r:=r) (all:=all)).2.2 hk
    exact Ur (n:=n) (by omega) (QR H)
   ·rw[k8 (fun e=>hk e.1)];exact QR H
  ·rw[k8 h];exact H
theorem Kc{bs:List Int}{r:Rd}(H:okR bs r):okR bs (jK bs r)∧okR bs (A0 bs r)∧okR bs (kg bs r).1∧okR bs (Jt bs r)∧okR bs (qY bs r).1:=by
 have h0:okR bs (jK bs r):=Bf (yU H)
 have h1:okR bs (A0 bs r):=Bf (yU h0)
 have h2:okR bs (kg bs r).1:=Po (yU h1)
 have h3:okR bs (Jt bs r):=Bf h2
 exact⟨h0,h1,h2,h3,Ur (Nat.le_refl _) h3⟩
end Go.Proofs.YtnhbgoiihgoneaaGreatDoor
end
section
namespace Go.Proofs.YtnhbgoiihgoneaaGreatDoor
open Go Go.Eng
abbrev tCl:TypeId:=89
abbrev tPC:TypeId:=91
abbrev tRt:TypeId:=150
abbrev tEr:TypeId:=55
def hdl(t:TypeId):Value:=.pointer (some ⟨5,t,none⟩)
def rty(t:TypeId):Value:=.iface tRt (.agg #[hdl t])
section
variable {S : Shared} {h : Eng.Heap} {B : Nat} {w : World} {K : Next → World → Prop}
theorem UX(t:Addr):yX Tryz.prog S h B (callFunc yT #[.iface tPC (.pointer (some t))]) [] w K =
  (True∧K (.value (.agg #[hdl tPC,.pointer (some ⟨w.heap.size,0,none⟩),.int .u64 150])) { w with heap:=w.heap.push (.cells #[.pointer (some t)] tPC) }):=by kernel_rfl
theorem UY(k:Int):yX Tryz.prog S h B (callFunc yT #[.iface tCl (.agg #[.int .i64 k])]) [] w K =
  (True∧K (.value (.agg #[hdl tCl,.pointer (some ⟨w.heap.size,0,none⟩),.int .u64 153])) { w with heap:=w.heap.push (.cells #[.int .i64 k] tCl) }):=by kernel_rfl
theorem Wj(a:Addr):yX Tryz.prog S h B (callFunc xY #[.agg #[hdl tPC,.pointer (some a),.int .u64 150]]) [] w K=(True∧K (.value (rty tPC)) w):=by kernel_rfl
theorem QS(t:Nat):wy Tryz.prog (method (Tryz.prog.types.size+Made.depth) tRt (.agg #[hdl t]) "Kind")=some (xR,hdl t):=by kernel_rfl
theorem Wk(t:Nat):wy Tryz.prog (method (Tryz.prog.types.size+Made.depth) tRt (.agg #[hdl t]) "Elem")=some (jb,.agg #[hdl t]):=by kernel_rfl
theorem Wl(t:Nat):wy Tryz.prog (method (Tryz.prog.types.size+Made.depth) tRt (.agg #[hdl t]) "Implements")=some (xv,.agg #[hdl t]):=by kernel_rfl
theorem Wm(t:Nat):wy Tryz.prog (method (Tryz.prog.types.size+Made.depth) tRt (.agg #[hdl t]) "AssignableTo")=some (xn,.agg #[hdl t]):=by kernel_rfl
theorem UZ:yX Tryz.prog S h B (callFunc xR #[hdl tPC]) [] w K=(True∧K (.value (.int .u8 22)) w):=by kernel_rfl
theorem Va:yX Tryz.prog S h B (callFunc xR #[hdl tCl]) [] w K=(True∧K (.value (.int .u8 25)) w):=by kernel_rfl
theorem Wn:yX Tryz.prog S h B (callFunc jb #[.agg #[hdl tPC]]) [] w K=(True∧K (.value (rty tCl)) w):=by kernel_rfl
theorem Wo:yX Tryz.prog S h B (callFunc xv #[.agg #[hdl tCl],rty tEr]) [] w K=(True∧K (.value (.bool true)) w):=by kernel_rfl
theorem Td(v:Value):yX Tryz.prog S h B (callFunc jW #[.iface tCl v]) [] w K=(True∧K (.value (rty tCl)) w):=by kernel_rfl
theorem Wp:yX Tryz.prog S h B (callFunc xn #[.agg #[hdl tCl],rty tCl]) [] w K=(True∧K (.value (.bool true)) w):=by kernel_rfl
theorem Vb(a p:Addr):yX Tryz.prog S h B (callFunc xQ #[.agg #[hdl tPC,.pointer (some a),.int .u64 150]]) [.pointer (some p)] w K =
  (True∧Mode.plain=.plain∧(h a.block≠none∨B≤a.block)∧w.cell? a=some (.pointer (some p))∧K (.value (.bool false)) w):=by kernel_rfl
theorem Vd(a p:Addr):yX Tryz.prog S h B (callFunc ja #[.agg #[hdl tPC,.pointer (some a),.int .u64 150]]) [.pointer (some p)] w K =
  (True∧Mode.plain=.plain∧(h a.block≠none∨B≤a.block)∧w.cell? a=some (.pointer (some p))∧K (.value (.agg #[hdl tCl,.pointer (some p),.int .u64 409])) w):=by kernel_rfl
theorem X7(t b:Addr)(k:Int):yX Tryz.prog S h B (callFunc ji #[.agg #[hdl tCl,.pointer (some t),.int .u64 409],.agg #[hdl tCl,.pointer (some b),.int .u64 153]]) [.int .i64 k] w K =
  (True∧Mode.plain=.plain∧(h b.block≠none∨B≤b.block)∧w.cell? b=some (.int .i64 k) ∧
   Mode.plain=.plain∧(h t.block≠none∨B≤t.block)∧¬S t.block∧(∃u,w.cell? t=some u)∧w.frozen? t=false∧(Value.int .i64 k).cells=#[.int .i64 k]∧(∀x,Value.int .i64 k ≠ .tuple x)∧(∀x,Value.int .i64 k ≠ .agg x) ∧
   K (.value (.tuple #[])) (w.setCell t (.int .i64 k))):=by kernel_rfl
end
end Go.Proofs.YtnhbgoiihgoneaaGreatDoor
end
section
namespace Go.Proofs.YtnhbgoiihgoneaaGreatDoor
open Go Go.Eng
section
variable {S : Shared} {h : Eng.Heap}
def CJ(h:Eng.Heap):Prop:=zd h ⟨3,0,none⟩=some (rty tEr)
theorem CJ.sub{h':Eng.Heap}(H:CJ h)(s:Eng.Sub h h'):CJ h':=yN s H
theorem NG(hi:Eng.Inv S h){k old:Int}{t a:Nat}(ht:h t=some (.cells #[.int .i64 old] tCl))(hs:¬S t)(ha:zd h ⟨a,0,none⟩=some (.pointer (some ⟨t,0,none⟩))) :
  zc Tryz.prog S DC #[.iface tCl (.agg #[.int .i64 k]),.iface tPC (.pointer (some ⟨t,0,none⟩)),.agg #[hdl tPC,.pointer (some ⟨a,0,none⟩),.int .u64 150],rty tCl] h
   (fun v h'=>v=.bool true∧h' t=some (.cells #[.int .i64 k] tCl)∧∀y,y≠t→h y≠none→h' y=h y):=by
 refine Lj (vs:=[.iface tCl (.agg #[.int .i64 k]),.iface tPC (.pointer (some ⟨t,0,none⟩)),hdl tPC,.pointer (some ⟨a,0,none⟩),.int .u64 150,rty tCl]) ⟨rfl,rfl,rfl,rfl,rfl,rfl,trivial⟩ hi ?_
 simp only[HI,Tr.wp,zG,Ex.ev,coerce,toInt_int,zb,zB,Cst.val,SV.den,zq,zL,zE,zo,zn,z9,zU,List.flatMap_cons,List.flatMap_nil,List.getD_cons_zero,List.getD_cons_succ,List.map_cons,List.map_nil,List.cons_append,List.nil_append,List.append_nil,Nat.zero_add,true_and,if_true,if_false,Bool.false_eq_true]
 refine⟨fun us h'=>us=[]∧h'=h,fun _ _=>0,⟨rfl,rfl⟩,?_⟩
 rintro h' ⟨_,rfl⟩
 refine(ER hi (fun w K=>Td _)).mono ?_
 rintro _ h1 ⟨rfl,rfl⟩
 refine⟨rty tCl,rfl,rfl,_,_,_,_,rfl,Wm tCl,?_⟩
 refine(ER hi (fun w K=>Wp)).mono ?_
 rintro _ h1 ⟨rfl,rfl⟩
 refine⟨_,rfl,fun _=>?_,fun hne=>by simp at hne⟩
 refine(KF hi ha (fun w K=>Vd ⟨a,0,none⟩ ⟨t,0,none⟩)).mono ?_
 rintro _ h1 ⟨rfl,rfl⟩
 refine⟨_,_,_,rfl,?_⟩
 refine(Mh hi (x:=fun b=>.agg #[hdl tCl,.pointer (some ⟨b,0,none⟩),.int .u64 153]) (fun w K=>UY k)).mono ?_
 rintro _ h2 ⟨b,hb,rfl,rfl⟩
 refine⟨_,_,_,rfl,?_⟩
 have hbt:t≠b:=fun e=>by rw[e,hb]at ht;cases ht
 refine(SL (t:=t) (b:=b) (k:=.i64) (n:=k) hi.upd (by simp[zd,upd]) (by rw[upd_ne hbt];exact ht) hs (fun w K=>X7 ⟨t,0,none⟩ ⟨b,0,none⟩ k)).mono ?_
 rintro _ h3 ⟨rfl,rfl⟩
 refine⟨by simp,upd_same,fun y hy hn=>?_⟩
 have hyb:y≠b:=fun e=>hn (by rw[e];exact hb)
 rw[upd_ne hy,upd_ne hyb]
theorem NH(hi:Eng.Inv S h){k old:Int}{t:Nat}(hE:CJ h)(ht:h t=some (.cells #[.int .i64 old] tCl))(hs:¬S t) :
  zc Tryz.prog S D9 #[.iface tCl (.agg #[.int .i64 k]),.iface tPC (.pointer (some ⟨t,0,none⟩))] h
   (fun v h'=>v=.bool true∧h' t=some (.cells #[.int .i64 k] tCl)∧∀y,y≠t→h y≠none→h' y=h y):=by
 refine Li (vs:=[.iface tCl (.agg #[.int .i64 k]),.iface tPC (.pointer (some ⟨t,0,none⟩))]) ⟨rfl,rfl,trivial⟩ hi ?_
 simp only[HF,Tr.wp,zG,Ex.ev,coerce,toInt_int,zb,zh,zB,zI,Cst.val,SV.den,zq,zL,zE,zo,zn,z9,zp,List.flatMap_cons,List.flatMap_nil,List.getD_cons_zero,List.getD_cons_succ,List.getElem?_cons_zero,List.getElem?_cons_succ,List.map_cons,List.map_nil,List.cons_append,List.nil_append,List.append_nil,Nat.zero_add,and_true,if_false,Bool.false_eq_true]
 refine⟨fun hne=>by simp[jN,xj]at hne,fun _=>⟨fun hne=>by simp[jN,xj]at hne,fun _=>?_⟩⟩
 refine(Mh hi (x:=fun b=>.agg #[hdl tPC,.pointer (some ⟨b,0,none⟩),.int .u64 150]) (fun w K=>UX ⟨t,0,none⟩)).mono ?_
 rintro _ h2 ⟨a,ha,rfl,rfl⟩
 have hat:t≠a:=fun e=>by rw[e,ha]at ht;cases ht
 have i2:Eng.Inv S (upd h a (.cells #[.pointer (some ⟨t,0,none⟩)] tPC)):=hi.upd
 have ca:zd (upd h a (.cells #[.pointer (some ⟨t,0,none⟩)] tPC)) ⟨a,0,none⟩=some (.pointer (some ⟨t,0,none⟩)):=by simp[zd,upd]
 have sa:Eng.Sub h (upd h a (.cells #[.pointer (some ⟨t,0,none⟩)] tPC)):=Sub.zC ha
 refine⟨_,_,_,rfl,?_⟩
 refine(ER i2 (fun w K=>Wj ⟨a,0,none⟩)).mono ?_
 rintro _ h3 ⟨rfl,rfl⟩
 refine⟨rty tPC,rfl,rfl,_,_,_,_,rfl,QS tPC,?_⟩
 refine(ER i2 (fun w K=>UZ)).mono ?_
 rintro _ h3 ⟨rfl,rfl⟩
 refine⟨_,rfl,fun _=>?_,fun hne=>by simp at hne⟩
 refine(KF i2 ca (fun w K=>Vb ⟨a,0,none⟩ ⟨t,0,none⟩)).mono ?_
 rintro _ h3 ⟨rfl,rfl⟩
 refine⟨_,rfl,fun _=>⟨fun hne=>by simp at hne,fun _=>?_⟩⟩
 refine⟨_,_,_,_,rfl,Wk tPC,?_⟩
 refine(ER i2 (fun w K=>Wn)).mono ?_
 rintro _ h3 ⟨rfl,rfl⟩
 refine⟨rty tCl,rfl,rfl,_,_,_,_,rfl,QS tCl,?_⟩
 refine(ER i2 (fun w K=>Va)).mono ?_
 rintro _ h3 ⟨rfl,rfl⟩
 refine⟨_,rfl,fun _=>?_,fun hne=>by simp at hne⟩
 refine⟨rty tEr,rfl,hE.sub sa,_,_,_,_,rfl,Wl tCl,?_⟩
 refine(ER i2 (fun w K=>Wo)).mono ?_
 rintro _ h3 ⟨rfl,rfl⟩
 refine⟨_,rfl,fun _=>⟨fun hne=>by simp at hne,fun _=>?_⟩⟩
 refine(NG i2 (k:=k) (by rw[upd_ne hat];exact ht) hs ca).mono ?_
 rintro _ h4 ⟨rfl,e1,e2⟩
 refine⟨_,rfl,rfl,e1,fun y hy hn=>?_⟩
 have hya:y≠a:=fun e=>hn (by rw[e];exact ha)
 rw[e2 y hy (by rw[upd_ne hya];exact hn),upd_ne hya]
theorem KI(hi:Eng.Inv S h){k:Int}(hE:CJ h) :
  zc Tryz.prog S AR #[.iface tCl (.agg #[.int .i64 k])] h (fun v h'=>v=.int .i64 k∧Eng.Sub h h'):=by
 refine Ii (vs:=[.iface tCl (.agg #[.int .i64 k])]) ⟨rfl,trivial⟩ hi ?_
 simp only[Ej,Tr.wp,zG,Ex.ev,coerce,toInt_int,zb,zh,Cst.val,SV.den,zq,zL,zE,zo,zn,yo,z9,zp,List.flatMap_cons,List.flatMap_nil,List.replicate_one,List.getD_cons_zero,List.getD_cons_succ,List.map_cons,List.map_nil,List.cons_append,List.nil_append,List.append_nil,and_true,if_false,Bool.false_eq_true]
 intro b hb
 have hsb:=EO hi hb
 have sb:∀o,Eng.Sub h (upd h b o):=fun o=>Sub.zC hb
 refine sto1' (u:=.int .i64 0) (T:=tCl) upd_same hsb ?_
 rw[yY]
 refine(NH hi.upd (hE.sub (sb _)) upd_same hsb).mono ?_
 rintro _ h4 ⟨rfl,e1,e2⟩
 refine⟨_,rfl,k,by rw[zm,zm];simp[zd,e1],rfl,fun y o hy=>?_⟩
 have hyb:y≠b:=fun e=>by rw[e,hb]at hy;cases hy
 rw[e2 y hyb (by rw[upd_ne hyb,hy];simp),upd_ne hyb];exact hy
end
end Go.Proofs.YtnhbgoiihgoneaaGreatDoor
end
section
namespace Go.Proofs.YtnhbgoiihgoneaaGreatDoor
open Go Go.Eng Go.IntWalk
variable {S : Shared} {h : Eng.Heap}
def kY(T:List (Nat×Nat)):List (Int×Int):=T.map fun e=>((e.1:Int),(e.2:Int))
theorem KJ{T:List (Nat×Nat)}:(kY T).length=T.length:=by simp[kY]
theorem Gq{T:List (Nat×Nat)}{k s q:Nat}(h:T[k]? = some (s,q)):(kY T)[k]? = some ((s:Int),(q:Int)):=by simp[kY,h]
theorem KL{T:List (Nat×Nat)}{k s q:Nat}:(kY T).set k ((s:Int),(q:Int))=kY (T.set k (s,q)):=by simp[kY,List.map_set]
theorem QT{T:List (Nat×Nat)}:kY T++[(0,0),(0,0)]=kY (T++[(0,0),(0,0)]):=by simp[kY]
structure TabV(h0 h:Eng.Heap)(bt:Nat)(T P:List (Nat×Nat))(a:Option Addr)(c:Nat)(E:Nat→Nat→Prop)(Y:Nat→Nat→Nat):Prop where
 hb:∃TT,h bt=some (.cells #[.slice a T.length c] TT)
 ow:qJ h (.slice a T.length c) (kY T)
 nw:Eng.New h0 (.slice a T.length c)
 nb:h0 bt=none
 ne:ze (.slice a T.length c)≠some bt
 ti:TI E Y T P
 sb:Eng.Sub h0 h
variable {h0 : Eng.Heap} {bt : Nat} {T P : List (Nat × Nat)} {a : Option Addr} {c : Nat} {E : Nat → Nat → Prop} {Y : Nat → Nat → Nat}
theorem TabV.ld(H:TabV h0 h bt T P a c E Y):zd h ⟨bt,0,none⟩=some (.slice a T.length c):=by
 obtain⟨TT,hb⟩:=H.hb
 simp[zd,hb]
theorem TabV.cell(H:TabV h0 h bt T P a c E Y){k s q:Nat}(hk:T[k]? = some (s,q)):zd h ((a.getD default).add (k*2))=some (.int .i64 s)∧zd h ((a.getD default).add (k*2+1))=some (.int .i64 q)∧a.isSome=true:=by
 obtain⟨a',c',e,_,hx⟩:=H.ow.yF
 simp only[Value.slice.injEq]at e
 rw[e.1]
 exact hx.cell (Gq hk)
def A7(cs:List (Nat×Nat))(m B i:Nat):Nat→Nat→Prop:=fun l v=>Em cs m l v∨(l<i∧v=B%2^l)
theorem Te{cs:List (Nat×Nat)}{m B i:Nat}:∀l v,v<2^(l+1)→A7 cs m B i (l+1) v→A7 cs m B i l (v%2^l):=by
 rintro l v _ (h | ⟨h1,rfl⟩)
 ·exact .inl (X1 h)
 ·exact .inr ⟨by omega,JZ (by omega)⟩
theorem Tf{cs:List (Nat×Nat)}{m B i:Nat}:∀l v,v<2^(l+1)→Ym cs m (l+1) v≠0→A7 cs m B i l (v%2^l):=fun l v _ h=>.inl (X3 h)
theorem Mp{B i:Nat}:B%2^(i+1)=B%2^i+2^i*(B/2^i%2):=by rw[Nat.pow_succ,Nat.mod_mul]
theorem Bz(hi:Eng.Inv S h)(a0:Option Addr)(c0:Nat)(xs:List Int)(O:tI.O h (.slice a0 xs.length c0) xs)(L:Pm xs)(hg:¬(zu xs=0∨zu xs=2)) :
  zc Tryz.prog S xK #[.slice a0 xs.length c0] h (fun v h'=>∃bt T P a c,v=.pointer (some ⟨bt,0,none⟩)∧TabV h h' bt T P a c (Em (zF xs) xs.length) (Ym (zF xs) xs.length)∧T.length≤20000):=by
 obtain⟨hlen,hok⟩:=j6 hg
 refine Ih (vs:=[.slice a0 xs.length c0]) ⟨rfl,trivial⟩ hi ?_
 simp only[Ei,Tr.wp,FI,zG,Ex.ev,coerce,toInt_int,zb,zf,zi,zg,zh,yi,zI,arith,Cst.val,SV.den,zq,zL,zE,zo,zn,yo,z9,zU,zp,List.flatMap_cons,List.flatMap_nil,List.replicate_one,List.getD_cons_zero,List.getD_cons_succ,List.getElem?_cons_zero,List.getElem?_cons_succ,decide_eq_true_eq,decide_eq_false_iff_not,List.map_cons,List.map_nil,List.cons_append,List.nil_append,List.append_nil,Nat.zero_add,and_true,if_false,Bool.false_eq_true]
 have w1:IntKind.i64.wrap 1=1:=i64_in _ (by omega)
 have e0:yh ((1:Int).toNat*2) #[Value.int IntKind.i64 0,Value.int IntKind.i64 0]=yV [(0,0)]:=KE 1
 have e1:(1:Int).toNat=1:=rfl
 rw[w1,e0,e1]
 refine⟨by omega,by omega,by omega,fun b0 hb0 bt hbt=>?_⟩
 obtain⟨h1,hh1⟩:∃h1,h1=upd h b0 (.cells (yV [(0,0)]) 176):=⟨_,rfl⟩
 rw[←hh1]at hbt ⊢
 have s1:Eng.Sub h h1:=by rw[hh1];exact Sub.zC hb0
 have hbt0:=zN s1 hbt
 have hne0:b0≠bt:=fun e=>by rw[hh1,←e,upd_same]at hbt;cases hbt
 obtain⟨h2,hh2⟩:∃h2,h2=upd h1 bt (.cells #[.slice (some ⟨b0,0,none⟩) 1 1] 174):=⟨_,rfl⟩
 rw[←hh2]
 have s2:Eng.Sub h h2:=by rw[hh2];exact s1.trans (Sub.zC hbt)
 have hb2t:h2 bt=some (.cells #[.slice (some ⟨b0,0,none⟩) 1 1] 174):=by rw[hh2,upd_same]
 have hb20:h2 b0=some (.cells (yV [(0,0)]) 176):=by rw[hh2,upd_ne hne0,hh1,upd_same]
 obtain⟨cs,hcs⟩:∃cs,cs=zF xs:=⟨_,rfl⟩
 have hcl:cs.length=xs.length:=by rw[hcs,x7]
 rw[←hcs]
 refine(CH (hi.sub s2) (Ty.Ah O s2) L).mono ?_
 rintro cv h3 ⟨OC,NC,s3⟩
 simp only[yK,if_neg hg]at OC
 obtain⟨ac,cc,rfl⟩:=SQ (Ew.OR OC)
 rw[wG]at OC NC ⊢
 have OC:xr h3 (.slice ac xs.length cc) (y7 xs):=OC
 have NC:∀y,ze (.slice ac xs.length cc)=some y→h2 y=none:=NC
 have hcbt:ze (.slice ac xs.length cc)≠some bt:=fun e=>by have:=NC bt e;rw[hb2t]at this;cases this
 refine⟨_,_,_,rfl,?_⟩
 refine⟨fun us h'=>∃(m:Nat) (T P:List (Nat×Nat)) (a:Option Addr) (c:Nat),us=[.int .i64 m]∧m≤xs.length∧TabV h h' bt T P a c (Em cs m) (Ym cs m)∧T.length≤1+30*m∧xr h' (.slice ac xs.length cc) (y7 xs)∧(∀y,ze (.slice ac xs.length cc)=some y→ze (.slice a T.length c)≠some y),
  fun us _=>xs.length-(toInt (us.getD 0 undef)).toNat,⟨0,[(0,0)],[(0,0)],some ⟨b0,0,none⟩,1,rfl,by omega,?_,by simp,OC,?_⟩,?_⟩
 ·refine⟨⟨_,s3 bt _ hb2t⟩,⟨b0,[],_,rfl,s3 b0 _ hb20⟩,New.of hb0,hbt0,fun e=>hne0 (by cases e;rfl),?_,s2.trans s3⟩
  exact TI.start.congr (fun l v _=>⟨fun h=>h.elim,fun⟨s,_,h,_⟩=>by omega⟩) (fun _ _ _=>rfl)
 ·intro y hy e
  cases e
  have:=NC b0 hy
  rw[hb20]at this;cases this
 rintro x h' ⟨m,T,P,a,c,hx1,hm,TV,hTl,OC1,dis⟩
 obtain rfl:x=m:=by simpa using hx1
 refine⟨fun hlt=>?_,fun hge=>?_⟩
 ·have hm3:m<xs.length:=by omega
  have hp:=ql (xs:=xs) hm3
  obtain⟨Lm,B,hpe,hcm,hL15,hBl⟩:=k6 hok hp
  rw[←hcs]at hcm
  rw[hpe]at hp
  obtain⟨a9,c9,e9,_,hx9⟩:=OC1.yF
  simp only[Value.slice.injEq]at e9
  obtain⟨rfl,_,rfl⟩:=e9
  obtain⟨g1,g2,g3⟩:=hx9.cell hp
  have w2:IntKind.i64.wrap ((m:Int)+1)=((m+1:Nat):Int):=by rw[i64_in _ (by omega)];omega
  refine⟨by simpa using g3,by omega,hlt,(Lm:Int),(B:Int),⟨by simpa[add_add]using g1,by simpa[add_add]using g2⟩,fun hz=>?_,fun hnz=>?_⟩
  ·have hz:Lm=0:=by have:(Lm:Int)=0:=beq_iff_eq.1 hz;omega
   subst hz
   rw[w2]
   refine⟨⟨m+1,T,P,a,c,rfl,by omega,⟨TV.hb,TV.ow,TV.nw,TV.nb,TV.ne,?_,TV.sb⟩,by omega,OC1,dis⟩,by simp only[List.getD_cons_zero,toInt_int];omega⟩
   refine TV.ti.congr (fun l v _=>?_) (fun l v _=>?_)
   ·rw[Oi hcm];exact⟨.inl,fun h=>h.elim id fun h=>by omega⟩
   ·rw[Ym,if_neg (fun h=>?_)]
    rw[hcm]at h
    simp only[Option.some.injEq,Prod.mk.injEq]at h
    omega
  have hLm:0<Lm:=by
   rcases Nat.eq_zero_or_pos Lm with h | h
   ·subst h;simp at hnz
   ·exact h
  refine⟨fun us h'=>∃(at_ i:Nat) (T P:List (Nat×Nat)) (a:Option Addr) (c:Nat),us=[.int .i64 at_,.int .i64 i]∧i≤Lm∧P[at_]? = some (i,B%2^i)∧TabV h h' bt T P a c (A7 cs m B i) (Ym cs m)∧T.length≤1+30*m+2*i∧xr h' (.slice ac xs.length cc) (y7 xs)∧(∀y,ze (.slice ac xs.length cc)=some y→ze (.slice a T.length c)≠some y),
   fun us _=>Lm-(toInt (us.getD 1 undef)).toNat,⟨0,0,T,P,a,c,rfl,by omega,by rw[TV.ti.root];simp[Nat.mod_one],⟨TV.hb,TV.ow,TV.nw,TV.nb,TV.ne,TV.ti.congr (fun l v _=>⟨.inl,fun h=>h.elim id fun h=>by omega⟩) (fun _ _ _=>rfl),TV.sb⟩,by omega,OC1,dis⟩,?_⟩
  clear TV hTl OC1 dis hx9 g1 g2 g3
  rintro x y h' ⟨at_,i,T,P,a,c,hx2,hi2,hP,TV,hTl,OC1,dis⟩
  obtain⟨rfl,rfl⟩:x=at_∧y=i:=by simpa using hx2
  obtain⟨s,q,hT⟩:=TV.ti.get hP
  have hkT:=(List.getElem?_eq_some_iff.1 hT).1
  obtain⟨g1,g2,g3⟩:=TV.cell hT
  refine⟨fun hlt=>?_,fun hge=>?_⟩
  ·refine⟨_,_,_,by simpa[zm]using TV.ld,by simpa using g3,by omega,by omega,(q:Int),by simpa[add_add]using g2,?_⟩
   have wi:IntKind.i64.wrap ((i:Int)+1)=((i+1:Nat):Int):=by rw[i64_in _ (by omega)];omega
   have hbit:IntKind.i64.wrap (Go.bits .and .u64 ((B:Int).fdiv (2^min (i:Int).toNat IntKind.u64.bits)) 1)=((B/2^i%2:Nat):Int):=by
    have m1:min (i:Int).toNat IntKind.u64.bits=i:=by
     have:IntKind.u64.bits=64:=rfl
     rw[this];omega
    have hp:(0:Int)<2^i:=Int.pow_pos (by decide)
    have e:(B:Int).fdiv (2^i)%2=((B/2^i%2:Nat):Int):=by
     rw[Int.fdiv_eq_ediv_of_nonneg _ (Int.le_of_lt hp)];push_cast;rfl
    rw[m1,Ig,e];exact i64_in _ (by omega)
   rw[wi,hbit]
   have adv:∀ {h':Eng.Heap} {T P:List (Nat×Nat)} {a:Option Addr} {c s q:Nat},T[at_]? = some (s,q)→P[at_]? = some (i,B%2^i)→TabV h h' bt T P a c (A7 cs m B (i+1)) (Ym cs m)→T.length≤1+30*m+2*(i+1)→xr h' (.slice ac xs.length cc) (y7 xs)→(∀y,ze (.slice ac xs.length cc)=some y→ze (.slice a T.length c)≠some y) →
     ∃(at' i':Nat) (T P:List (Nat×Nat)) (a:Option Addr) (c:Nat),([Value.int .i64 (IntKind.i64.wrap ((q:Int)+((B/2^i%2:Nat):Int))),Value.int .i64 ((i+1:Nat):Int)]:List Value)=[.int .i64 at',.int .i64 i']∧i'≤Lm∧P[at']? = some (i',B%2^i')∧TabV h h' bt T P a c (A7 cs m B i') (Ym cs m)∧T.length≤1+30*m+2*i'∧xr h' (.slice ac xs.length cc) (y7 xs)∧(∀y,ze (.slice ac xs.length cc)=some y→ze (.slice a T.length c)≠some y):=by
    intro h' T P a c s q hT hP TV hl OC dis
    have hq:q≠0:=(TV.ti.ext hT hP).2 (.inr ⟨by omega,rfl⟩)
    obtain⟨k0,k1⟩:=TV.ti.kid hT hP hq
    have hk0:=(List.getElem?_eq_some_iff.1 k0).1
    rw[TV.ti.len]at hk0
    have hbb:B/2^i%2=0∨B/2^i%2=1:=by omega
    refine⟨q+B/2^i%2,i+1,T,P,a,c,by rw[i64_in _ (by omega)];rfl,by omega,?_,TV,hl,OC,dis⟩
    rw[Mp]
    rcases hbb with h | h <;> rw[h]
    ·simpa using k0
    ·simpa using k1
   have hnb:∀b,ze (.slice a T.length c)=some b→¬S b:=fun b hb hs=>hi b hs (TV.nw b hb)
   refine⟨fun hq0=>?_,fun hqn _=>?_⟩
   ·have hq0:q=0:=by have:(q:Int)=0:=beq_iff_eq.1 hq0;omega
    subst hq0
    have hT':(kY T)[at_]? = some ((s:Int),(((0:Nat):Int))):=Gq hT
    obtain⟨ok4,ow4,fr4⟩:=TV.ow.SK hnb hT' (T.length:Int)
    rw[KL]at ow4
    refine⟨_,_,_,by simpa[zm]using TV.ld,_,_,_,by simpa[zm]using TV.ld,by simpa using g3,by omega,by omega,?_⟩
    simp only[zO,Int.toNat_natCast]
    refine⟨ok4,?_⟩
    obtain⟨h4,hh4⟩:∃h4,h4=zy h' ((((a.getD default).add (at_*2)).add 1).add 0) (.int .i64 T.length):=⟨_,rfl⟩
    obtain⟨TT,hbt'⟩:=TV.hb
    have f4:∀w,ze (.slice a T.length c)≠some w→h4 w=h' w:=fun w hw=>by rw[hh4];exact fr4 w hw
    rw[←hh4]at ow4 ⊢
    have hb4:h4 bt=some (.cells #[.slice a T.length c] TT):=by rw[f4 bt TV.ne];exact hbt'
    have sb4:Eng.Sub h h4:=fun y o hy=>by rw[f4 y (fun e=>by rw[TV.nw y e]at hy;cases hy)];exact TV.sb y o hy
    have OC4:xr h4 (.slice ac xs.length cc) (y7 xs):=OC1.keep fun y hy=>f4 y (dis y hy)
    refine⟨a,T.length,c,by simp[zm,zd,hb4],fun b hb=>?_⟩
    have eb:(Obj.cells #[Value.int IntKind.i64 0,Value.int IntKind.i64 0,Value.int IntKind.i64 0,Value.int IntKind.i64 0] 176)=.cells (yV [(0,0),(0,0)]) 176:=rfl
    rw[eb]
    have s5:Eng.Sub h4 (upd h4 b (.cells (yV [(0,0),(0,0)]) 176)):=Sub.zC hb
    have hnT:(kY (T.set at_ (s,T.length))).length=T.length:=by rw[KJ,List.length_set]
    have ow5:qJ (upd h4 b (.cells (yV [(0,0),(0,0)]) 176)) (.slice a T.length c) (kY (T.set at_ (s,T.length))):=ow4.keep fun z hz=>upd_ne fun e=>ow4.held z hz (e▸hb)
    refine QD hi (sb4.trans s5) ow5 TV.nw (qs:=[(0,0),(0,0)]) (jI.of (sp:=[]) upd_same) (by rw[hnT];simp only[List.length_cons,List.length_nil];omega) fun v' h6 o6 n6 s6 keep hblk=>?_
    rw[QT]at o6
    obtain⟨a6,c6,rfl,_,_⟩:=o6.yF
    rw[KJ]at o6 n6 hblk ⊢
    have hb5:(upd h4 b (.cells (yV [(0,0),(0,0)]) 176)) bt=some (.cells #[.slice a T.length c] TT):=s5 bt _ hb4
    have hb6:h6 bt=some (.cells #[.slice a T.length c] TT):=by rw[keep bt (by rw[hb5];simp) TV.ne];exact hb5
    have hsbt:¬S bt:=fun hs=>hi bt hs TV.nb
    have ezz:((⟨bt,0,none⟩:Addr).add 0).add 0=⟨bt,0,none⟩:=by rw[zm,zm]
    have ne6:ze (.slice a6 (T.set at_ (s,T.length)++[(0,0),(0,0)]).length c6)≠some bt:=by
     rcases hblk with e | e
     ·rw[e];exact TV.ne
     ·intro e2
      have:=e bt e2
      rw[hb5]at this;cases this
    have dis6:∀y,ze (.slice ac xs.length cc)=some y→ze (.slice a6 (T.set at_ (s,T.length)++[(0,0),(0,0)]).length c6)≠some y:=fun y hy=>by
     rcases hblk with e | e
     ·rw[e];exact dis y hy
     ·intro e2
      have h7:=e y e2
      exact OC4.held y hy (zN s5 h7)
    have OC6:xr h6 (.slice ac xs.length cc) (y7 xs):=OC4.keep fun y hy=>by
     have hh:=OC4.held y hy
     have e5:(upd h4 b (.cells (yV [(0,0),(0,0)]) 176)) y=h4 y:=upd_ne fun e=>hh (e▸hb)
     rw[keep y (by rw[e5];exact hh) (dis y hy),e5]
    have eset:zy h6 (((⟨bt,0,none⟩:Addr).add 0).add 0) (.slice a6 (T.set at_ (s,T.length)++[(0,0),(0,0)]).length c6)=upd h6 bt (.cells #[.slice a6 (T.set at_ (s,T.length)++[(0,0),(0,0)]).length c6] TT):=by
     rw[ezz,hset_cells' hb6];rfl
    refine⟨by rw[ezz];exact⟨⟨.slice a T.length c,by simp[zd,hb6]⟩,by simp[yd,hb6],hsbt⟩,?_⟩
    simp only[zg,zf,zi]
    rw[eset]
    intro _
    have TV6:TabV h (upd h6 bt (.cells #[.slice a6 (T.set at_ (s,T.length)++[(0,0),(0,0)]).length c6] TT)) bt (T.set at_ (s,T.length)++[(0,0),(0,0)]) (P++[(i+1,B%2^i),(i+1,B%2^i+2^i)]) a6 c6 (A7 cs m B (i+1)) (Ym cs m):=by
     refine⟨⟨TT,upd_same⟩,o6.keep fun z hz=>upd_ne fun e=>ne6 (e▸hz),n6,TV.nb,ne6,?_,fun y o hy=>?_⟩
     ·refine(TV.ti.grow hT hP Te Tf).congr (fun l v _=>?_) (fun _ _ _=>rfl)
      unfold A7
      constructor
      ·rintro((h | h) | ⟨rfl,rfl⟩)
       ·exact .inl h
       ·exact .inr ⟨by omega,h.2⟩
       ·exact .inr ⟨by omega,rfl⟩
      ·rintro(h | ⟨h1,h2⟩)
       ·exact .inl (.inl h)
       ·rcases(show l<i∨l=i by omega)with h | h
        ·exact .inl (.inr ⟨h,h2⟩)
        ·subst h;exact .inr ⟨rfl,h2⟩
     ·rw[upd_ne (fun e=>by rw[e,TV.nb]at hy;cases hy)];exact s6 y o hy
    have hT6:(T.set at_ (s,T.length)++[(0,0),(0,0)])[at_]? = some (s,T.length):=by
     rw[List.getElem?_append_left (by rw[List.length_set];exact hkT),List.getElem?_set_self hkT]
    have hP6:(P++[(i+1,B%2^i),(i+1,B%2^i+2^i)])[at_]? = some (i,B%2^i):=by
     rw[List.getElem?_append_left (List.getElem?_eq_some_iff.1 hP).1];exact hP
    obtain⟨_,g5,g6⟩:=TV6.cell hT6
    refine⟨_,_,_,by simpa[zm]using TV6.ld,by simpa using g6,by omega,by simp;omega,(T.length:Int),by simpa[add_add]using g5,by omega,?_,by simp only[List.getD_cons_succ,List.getD_cons_zero,toInt_int];omega⟩
    exact adv hT6 hP6 TV6 (by simp;omega) (OC6.keep fun z hz=>upd_ne fun e=>hcbt (e▸hz)) dis6
   ·have hqn:q≠0:=fun e=>by subst e;simp at hqn
    have TV6:TabV h h' bt T P a c (A7 cs m B (i+1)) (Ym cs m):=⟨TV.hb,TV.ow,TV.nw,TV.nb,TV.ne,TV.ti.congr (fun l v hv=>by
     have hE:=(TV.ti.ext hT hP).1 hqn
     unfold A7 at hE ⊢
     constructor
     ·rintro(h | ⟨h1,h2⟩)
      ·exact .inl h
      ·exact .inr ⟨by omega,h2⟩
     ·rintro(h | ⟨h1,h2⟩)
      ·exact .inl h
      ·rcases(show l<i∨l=i by omega)with h | h
       ·exact .inr ⟨h,h2⟩
       ·subst h;subst h2;exact hE) (fun _ _ _=>rfl),TV.sb⟩
    refine⟨_,_,_,by simpa[zm]using TV.ld,by simpa using g3,by omega,by omega,(q:Int),by simpa[add_add]using g2,by omega,?_,by simp only[List.getD_cons_succ,List.getD_cons_zero,toInt_int];omega⟩
    exact adv hT hP TV6 (by omega) OC1 dis
  ·refine⟨_,_,_,by simpa[zm]using TV.ld,by simpa using g3,by omega,by omega,?_⟩
   obtain rfl:i=Lm:=by omega
   have hnb:∀b,ze (.slice a T.length c)=some b→¬S b:=fun b hb hs=>hi b hs (TV.nw b hb)
   have hT':(kY T)[at_]? = some ((s:Int),((q:Int))):=Gq hT
   obtain⟨ok4,ow4,fr4⟩:=TV.ow.SJ hnb hT' ((m+1:Nat):Int)
   rw[KL]at ow4
   simp only[zO,Int.toNat_natCast,w2]
   refine⟨ok4,?_⟩
   obtain⟨h4,hh4⟩:∃h4,h4=zy h' ((((a.getD default).add (at_*2)).add 0).add 0) (.int .i64 ((m+1:Nat):Int)):=⟨_,rfl⟩
   obtain⟨TT,hbt'⟩:=TV.hb
   have f4:∀w,ze (.slice a T.length c)≠some w→h4 w=h' w:=fun w hw=>by rw[hh4];exact fr4 w hw
   rw[←hh4]at ow4 ⊢
   rw[Eh hBl]at hP
   have hlT:(T.set at_ (m+1,q)).length=T.length:=List.length_set ..
   have TV4:TabV h h4 bt (T.set at_ (m+1,q)) P a c (Em cs (m+1)) (Ym cs (m+1)):=by
    refine⟨⟨TT,by rw[f4 bt TV.ne,hlT];exact hbt'⟩,by rw[hlT];exact ow4,by rw[hlT];exact TV.nw,TV.nb,by rw[hlT];exact TV.ne,?_,fun y o hy=>by rw[f4 y (fun e=>by rw[TV.nw y e]at hy;cases hy)];exact TV.sb y o hy⟩
    refine(TV.ti.put hT hP (m+1)).congr (fun l v _=>?_) (fun l v _=>?_)
    ·rw[Oi hcm];unfold A7
     constructor
     ·rintro(h | ⟨h1,h2⟩)
      ·exact .inl h
      ·exact .inr ⟨h1,h2.symm⟩
     ·rintro(h | ⟨h1,h2⟩)
      ·exact .inl h
      ·exact .inr ⟨h1,h2.symm⟩
    ·rw[Ym,hcm]
     by_cases h:l=i∧v=B
     ·obtain⟨rfl,rfl⟩:=h
      rw[if_pos ⟨rfl,rfl⟩,if_pos ⟨rfl,hLm⟩]
     ·rw[if_neg h,if_neg]
      intro h2
      simp only[Option.some.injEq,Prod.mk.injEq]at h2
      exact h ⟨h2.1.1.symm,h2.1.2.symm⟩
   exact⟨⟨m+1,_,P,a,c,rfl,by omega,TV4,by rw[hlT];omega,OC1.keep fun y hy=>f4 y (dis y hy),by rw[hlT];exact dis⟩,by simp only[List.getD_cons_zero,toInt_int];omega⟩
 ·obtain rfl:m=xs.length:=by omega
  exact⟨bt,T,P,a,c,rfl,TV,by omega⟩
end Go.Proofs.YtnhbgoiihgoneaaGreatDoor
end
section
namespace Go.Proofs.YtnhbgoiihgoneaaGreatDoor
open Go Go.Eng Go.IntWalk
variable {S : Shared} {h : Eng.Heap}
theorem Wq:∀k,k<19→ord.getD k 0<19:=by decide
theorem Ve{k:Nat}(h:k<19):(ord.map Int.ofNat)[k]? = some ((ord.getD k 0:Nat):Int):=by
 have hl:ord.length=19:=rfl
 rw[List.getElem?_map,List.getElem?_eq_getElem (by omega)]
 simp[List.getD,List.getElem?_eq_getElem (show k<ord.length by omega)]
def Gr(nl:Nat)(r:Rd)(all:List Int):Rd×List Int×List Int:=if r.k=0 then(bd (Kb (all.take nl) (all.drop nl)) r,all.take nl,all.drop nl)else(r,[],[])
end Go.Proofs.YtnhbgoiihgoneaaGreatDoor
end
section
namespace Go.Proofs.YtnhbgoiihgoneaaGreatDoor
open Go Go.Eng Go.IntWalk
section
variable {S : Shared} {h h0 : Eng.Heap}
structure MC where
 w:Value
 out:Value
 rm:Int
 last:Bool
 l:Value
 d:Value
def zQ(a:Option Addr)(c:Nat)(bs:List Int)(p:Int)(m:MC)(T:TypeId):Obj:=
 .cells #[.slice a bs.length c,.int .i64 p,m.w,m.out,.int .i64 m.rm,.bool m.last,m.l,m.d] T
structure MAt(h0 h:Eng.Heap)(bm:Nat)(a:Option Addr)(c:Nat)(bs:List Int)(p:Int)(m:MC)(T:TypeId):Prop where
 hb:h bm=some (zQ a c bs p m T)
 nb:h0 bm=none
 sb:Eng.Sub h0 h
structure Errs(h:Eng.Heap):Prop where
 e2:zd h ⟨2,0,none⟩=some (.int .i64 2)
 e3:zd h ⟨1,0,none⟩=some (.int .i64 3)
theorem Errs.sub{h':Eng.Heap}(H:Errs h)(s:Eng.Sub h h'):Errs h':=⟨yN s H.e2,yN s H.e3⟩
def zA(k:Int):Value:=if k=0 then .nilIface else .iface tCl (.agg #[.int .i64 k])
theorem zt{k:Int}:xj (zA k)=decide (k=0):=by
 unfold zA;split
 ·rename_i h;simp[xj,h]
 ·rename_i h;simp[xj,h]
theorem za{k:Int}:jN (zA k)=zA k:=by unfold zA;split <;> rfl
theorem QU:zA 0=.nilIface:=rfl
theorem Oj{k:Int}(h:k≠0):zA k=.iface tCl (.agg #[.int .i64 k]):=if_neg h
theorem MAt.keep{h':Eng.Heap}{bm:Nat}{a:Option Addr}{c:Nat}{bs:List Int}{p q:Int}{m:MC}{T:TypeId}(H:MAt h0 h bm a c bs p m T)(e:h'=upd h bm (zQ a c bs q m T)):MAt h0 h' bm a c bs q m T:=by
 subst e
 exact⟨upd_same,H.nb,fun y o hy=>by rw[upd_ne (fun e=>by rw[e,H.nb]at hy;cases hy)];exact H.sb y o hy⟩
section
variable {bm : Nat} {a : Option Addr} {c : Nat} {bs : List Int} {m : MC} {T : TypeId}
theorem ya{h:Eng.Heap}{p:Int}(hb:h bm=some (zQ a c bs p m T)):zd h ⟨bm,0,none⟩=some (.slice a bs.length c)∧zd h ⟨bm,1,none⟩=some (.int .i64 p)∧zd h ⟨bm,2,none⟩=some m.w∧zd h ⟨bm,3,none⟩=some m.out∧zd h ⟨bm,4,none⟩=some (.int .i64 m.rm)∧zd h ⟨bm,5,none⟩=some (.bool m.last)∧zd h ⟨bm,6,none⟩=some m.l∧zd h ⟨bm,7,none⟩=some m.d:=by
 simp[zd,hb,zQ]
theorem KM{h:Eng.Heap}{p q:Int}(hb:h bm=some (zQ a c bs p m T)):zy h ⟨bm,1,none⟩ (.int .i64 q)=upd h bm (zQ a c bs q m T):=by
 rw[hset_cells' hb];rfl
theorem k9{h:Eng.Heap}{p:Int}(hb:h bm=some (zQ a c bs p m T))(hs:¬S bm){i:Nat}{v:Value}(hc:zd h ⟨bm,i,none⟩=some v):yC S h ⟨bm,i,none⟩:=⟨⟨_,hc⟩,by simp[yd,hb,zQ],hs⟩
theorem QV(hi:Eng.Inv S h0)(hx:zj h0 .u8 a bs)(L:bs.length≤1048576)(p:Nat)(hp:p≤8*bs.length)(M:MAt h0 h bm a c bs p m T) :
  zc Tryz.prog S xI #[.pointer (some ⟨bm,0,none⟩)] h (fun v h'=>(p=8*bs.length∧v=.int .i64 (-1)∧h'=h)∨(p<8*bs.length∧v=.int .i64 (xy bs p)∧h'=upd h bm (zQ a c bs ((p+1:Nat):Int) m T))):=by
 have hsb:¬S bm:=fun hs=>hi bm hs M.nb
 refine Ek (vs:=[.pointer (some ⟨bm,0,none⟩)]) ⟨rfl,trivial⟩ (hi.sub M.sb) ?_
 simp only[AE,Tr.wp,Ex.ev,coerce,toInt_int,zb,zf,zi,zg,zh,zB,yi,zZ,zI,arith,Cst.val,SV.den,z9,zp,zO,List.getD_cons_zero,List.getD_cons_succ,decide_eq_true_eq,decide_eq_false_iff_not,List.map_cons,List.map_nil,List.cons_append,List.nil_append,Nat.zero_add,Nat.add_zero,and_true,zm]
 obtain⟨g0,g1,_⟩:=ya M.hb
 have w8:IntKind.i64.wrap (8*(bs.length:Int))=8*(bs.length:Int):=i64_in _ (by omega)
 have w1:IntKind.i64.wrap ((p:Int)+1)=((p+1:Nat):Int):=by rw[i64_in _ (by omega)];omega
 have wd:IntKind.i64.wrap ((p:Int).tdiv 8)=((p/8:Nat):Int):=by rw[Int.tdiv_eq_ediv_of_nonneg (by omega)];exact i64_in _ (by omega)
 have wm:(p:Int).tmod 8=((p%8:Nat):Int):=by rw[Int.tmod_eq_emod_of_nonneg (by omega)];omega
 refine⟨by simp,p,g1,by simp,_,_,_,g0,fun hge=>?_,fun hlt=>?_⟩
 ·rw[w8]at hge
  exact .inl (by omega)
 ·rw[w8]at hlt
  have hlt:p<8*bs.length:=by omega
  have hpl:p/8<bs.length:=by omega
  refine⟨by simp,p,g1,by simp,p,g1,by simp,k9 M.hb hsb g1,?_⟩
  rw[w1,KM M.hb]
  have M':=M.keep (q:=((p+1:Nat):Int)) rfl
  obtain⟨k0,_⟩:=ya M'.hb
  obtain⟨x1,x2⟩:=(hx.sub M'.sb).cell (List.getElem?_eq_getElem hpl)
  rw[wd,wm]
  refine⟨by simp,_,_,_,k0,by simpa using x2,by omega,by omega,bs[p/8],by simp only[Int.toNat_natCast,Nat.mul_one,add_add,Nat.add_zero];exact x1,by omega,.inr ⟨hlt,?_,rfl⟩⟩
  rw[Int.toNat_natCast]
  have e:bs.getD (p/8) 0=bs[p/8]:=by simp[List.getD,List.getElem?_eq_getElem hpl]
  have e2:min (p%8) IntKind.u8.bits=p%8:=by
   have:IntKind.u8.bits=8:=rfl
   rw[this];omega
  rw[e2,US,i64_in _ (by omega),xy,e]
theorem Wr{v:Int}{i:Nat}(b:Int)(h0:0≤v)(h1:v<2^i)(hb:0≤b∧b≤1)(hi:i<62):Go.bits .or .i64 v (IntKind.i64.wrap (b*2^i))=v+b*2^i:=by
 have hp:(2:Int)^i≤2^61:=by
  rw[yP,yP]
  exact_mod_cast Nat.pow_le_pow_right (by decide) (show i≤61 by omega)
 have hp0:(0:Int)<2^i:=Int.pow_pos (by decide)
 have hb1:0≤b*2^i∧b*2^i≤2^61:=by
  obtain rfl | rfl:b=0∨b=1:=by omega
  ·rw[Int.zero_mul];omega
  ·rw[Int.one_mul];omega
 have hw:IntKind.i64.wrap (b*2^i)=b*2^i:=i64_in _ (by omega)
 have h:=Wd b h0 h1 hb (show i<64 by omega)
 have hX:IntKind.u64.wrap ((BitVec.ofInt 64 v ||| BitVec.ofInt 64 (b*2^i)).toNat:Int)=v+b*2^i:=h
 rw[hw]
 show IntKind.i64.wrap ((BitVec.ofInt 64 v ||| BitVec.ofInt 64 (b*2^i)).toNat:Int)=_
 have hl:=(BitVec.ofInt 64 v ||| BitVec.ofInt 64 (b*2^i)).isLt
 generalize (BitVec.ofInt 64 v ||| BitVec.ofInt 64 (b*2^i)).toNat=X at hX hl ⊢
 rw[u64_in _ (by omega)]at hX
 rw[hX];exact i64_in _ (by omega)
theorem Fb(hi:Eng.Inv S h0)(G:Errs h0)(hx:zj h0 .u8 a bs)(L:bs.length≤1048576)(p:Nat)(hp:p≤8*bs.length)(n:Nat)(hn:n≤32)(M:MAt h0 h bm a c bs p m T) :
  zc Tryz.prog S zH #[.pointer (some ⟨bm,0,none⟩),.int .i64 n] h (fun v h'=>v=.tuple #[.int .i64 (tk bs n ⟨p,0⟩).2,zA (tk bs n ⟨p,0⟩).1.k]∧h'=upd h bm (zQ a c bs (tk bs n ⟨p,0⟩).1.i m T)):=by
 refine Cv (vs:=[.pointer (some ⟨bm,0,none⟩),.int .i64 n]) ⟨rfl,rfl,trivial⟩ (hi.sub M.sb) ?_
 simp only[wB,Tr.wp,zG,Ex.ev,coerce,toInt_int,zb,zf,zi,zg,zh,zB,zZ,zI,arith,Cst.val,SV.den,zq,zL,zE,zo,zn,z9,zU,zp,List.flatMap_cons,List.flatMap_nil,List.getD_cons_zero,List.getD_cons_succ,List.getElem?_cons_zero,List.getElem?_cons_succ,decide_eq_true_eq,decide_eq_false_iff_not,List.map_cons,List.map_nil,List.cons_append,List.nil_append,List.append_nil,Nat.zero_add,Nat.add_zero,and_true,if_false,Bool.false_eq_true,zm]
 obtain⟨g0,g1,_⟩:=ya M.hb
 have w8:IntKind.i64.wrap (8*(bs.length:Int))=8*(bs.length:Int):=i64_in _ (by omega)
 have ws:IntKind.i64.wrap (8*(bs.length:Int)-(p:Int))=8*(bs.length:Int)-(p:Int):=i64_in _ (by omega)
 refine⟨by simp,_,_,_,g0,by simp,p,g1,fun hgt=>?_,fun hle=>?_⟩
 ·rw[w8,ws]at hgt
  have e:tk bs n ⟨(p:Int),0⟩=(⟨(p:Int),2⟩,0):=by unfold tk;rw[if_pos rfl,if_pos (by simp only;omega)]
  rw[e]
  exact⟨2,(G.sub M.sb).e2,rfl,(kM M.hb).symm⟩
 ·rw[w8,ws]at hle
  have e:tk bs n ⟨(p:Int),0⟩=(⟨(p:Int)+n,0⟩,yw bs p n):=by unfold tk;rw[if_pos rfl,if_neg (by simp only;omega)];rfl
  rw[e]
  refine⟨fun us h'=>∃j:Nat,us=[.int .i64 (yw bs p j),.int .i64 j]∧j≤n∧h'=upd h bm (zQ a c bs ((p+j:Nat):Int) m T),fun us _=>n-(toInt (us.getD 1 undef)).toNat,⟨0,rfl,by omega,(kM M.hb).symm⟩,?_⟩
  rintro x y h' ⟨j,hx1,hj,rfl⟩
  obtain⟨rfl,rfl⟩:x=yw bs p j∧y=j:=by simpa using hx1
  refine⟨fun hlt=>?_,fun hge=>?_⟩
  ·have hjn:j<n:=by omega
   refine(QV hi hx L (p+j) (by omega) (M.keep rfl)).mono ?_
   rintro _ h2 (⟨e1,_,_⟩ | ⟨_,rfl,rfl⟩)
   ·omega
   ·rw[yY]
    have lt:=Cp (xs:=bs) (a:=p) (n:=j)
    have m64:min (j:Int).toNat IntKind.i64.bits=j:=by
     have:IntKind.i64.bits=64:=rfl
     rw[this];omega
    have w2:IntKind.i64.wrap ((j:Int)+1)=((j+1:Nat):Int):=by rw[i64_in _ (by omega)];omega
    refine⟨_,rfl,by omega,?_⟩
    rw[m64,Wr _ lt.1 lt.2 EP (by omega),w2]
    exact⟨⟨j+1,rfl,by omega,rfl⟩,by simp only[List.getD_cons_succ,List.getD_cons_zero,toInt_int,Int.toNat_natCast];omega⟩
  ·obtain rfl:j=n:=by omega
   refine⟨rfl,?_⟩
   rw[show((p+j:Nat):Int)=(p:Int)+(j:Int) by omega]
end
end
section
variable {S : Shared} {h h0 : Eng.Heap}
theorem Ol{bs:List Int}{p:Nat}:∀ {n l:Nat},l<n→(((yw bs p n).toNat/2^l%2:Nat):Int)=xy bs (p+l)
 | 0,l,h=>by omega
 | n+1,l,h=>by
  have lt:=Cp (xs:=bs) (a:=p) (n:=n)
  have hb:=EP (xs:=bs) (i:=p+n)
  obtain⟨B,hB⟩:=Int.eq_ofNat_of_zero_le hb.1
  obtain⟨N,hN⟩:=Int.eq_ofNat_of_zero_le lt.1
  have e:(yw bs p (n+1)).toNat=N+2^n*B:=by
   have e1:yw bs p (n+1)=((N+2^n*B:Nat):Int):=by
    rw[yw,hN,hB];push_cast;rw[Int.mul_comm]
   rw[e1,Int.toNat_natCast]
  have hN2:N<2^n:=by
   have:=lt.2;rw[hN,yP]at this;exact_mod_cast this
  have hp:0<2^n:=Nat.two_pow_pos n
  rw[e]
  by_cases hl:l=n
  ·subst hl
   rw[Nat.add_mul_div_left _ _ hp,Nat.div_eq_of_lt hN2,hB];omega
  ·have ih:=Ol (bs:=bs) (p:=p) (n:=n) (l:=l) (by omega)
   rw[hN,Int.toNat_natCast]at ih
   rw[←ih]
   obtain⟨d,rfl⟩:∃d,n=l+(d+1):=⟨n-l-1,by omega⟩
   rw[Nat.pow_add,Nat.mul_assoc,Nat.add_mul_div_left _ _ (Nat.two_pow_pos l),Nat.pow_succ]
   have:2^d*2*B=2*(2^d*B):=by rw[Nat.mul_comm (2^d) 2,Nat.mul_assoc]
   rw[this];omega
section
variable {bm : Nat} {a : Option Addr} {c : Nat} {bs : List Int} {m : MC} {T : TypeId}
theorem Vf{bt:Nat}{TT PP:List (Nat×Nat)}{a2:Option Addr}{c2:Nat}{cs:List (Nat×Nat)}(hi:Eng.Inv S h0)(hx:zj h0 .u8 a bs)(L:bs.length≤1048576)(p:Nat)(hp:p≤8*bs.length)(M:MAt h0 h bm a c bs p m T)
  (TV:TabV h0 h bt TT PP a2 c2 (Em cs cs.length) (Ym cs cs.length))(hTl:TT.length≤20000)(hM:∀c∈cs,c.1≤15)(hbt:bt≠bm)(hbl:ze (.slice a2 TT.length c2)≠some bm)(hsl:Ym cs cs.length 0 0=0)(hcl:cs.length≤1000) :
  zc Tryz.prog S jT #[.pointer (some ⟨bt,0,none⟩),.func (.func xI) #[.pointer (some ⟨bm,0,none⟩)] #[]] h (fun v h'=>v=Wf (nxB bs cs p)∧∃p':Nat,p'≤8*bs.length∧h'=upd h bm (zQ a c bs p' m T)∧((nxB bs cs p).1=1→(p':Int)=p+(nxB bs cs p).2.2)):=by
 refine Cu (vs:=[.pointer (some ⟨bt,0,none⟩),.func (.func xI) #[.pointer (some ⟨bm,0,none⟩)] #[]]) ⟨rfl,rfl,trivial⟩ (hi.sub TV.sb) ?_
 simp only[wA,Tr.wp,zG,Ex.ev,coerce,toInt_int,zb,zf,zi,zg,zh,zB,yi,zZ,zI,arith,Cst.val,SV.den,zq,zL,zE,zo,zn,z9,zU,zp,List.flatMap_cons,List.flatMap_nil,List.getD_cons_zero,List.getD_cons_succ,List.getElem?_cons_zero,decide_eq_true_eq,decide_eq_false_iff_not,List.map_cons,List.map_nil,List.cons_append,List.nil_append,List.append_nil,Nat.zero_add,and_true,if_false,Bool.false_eq_true]
 obtain⟨s0,q0,hT0⟩:=TV.ti.get TV.ti.root
 have hk0:=(List.getElem?_eq_some_iff.1 hT0).1
 obtain⟨g1,g2,g3⟩:=TV.cell hT0
 obtain⟨n,hn⟩:∃n,n=look bs p:=⟨_,rfl⟩
 obtain⟨b,hb⟩:∃b,b=(yw bs p n).toNat:=⟨_,rfl⟩
 have hn15:n≤15:=hn▸UW
 have enx:nxB bs cs p=nxt cs b (n+1) 0:=by unfold nxB;rw[←hn,←hb]
 rw[enx]
 refine⟨by simp,_,_,_,by simpa[zm]using TV.ld,by simpa using g3,by simp,by omega,(s0:Int),(q0:Int),⟨by simpa[add_add]using g1,by simpa[add_add]using g2⟩,?_⟩
 have tv:∀q:Int,TabV h0 (upd h bm (zQ a c bs q m T)) bt TT PP a2 c2 (Em cs cs.length) (Ym cs cs.length):=fun q=>
  ⟨by obtain⟨TY,hb⟩:=TV.hb;exact⟨TY,(upd_ne hbt).trans hb⟩,TV.ow.keep fun z hz=>upd_ne fun e=>hbl (e▸hz),TV.nw,TV.nb,TV.ne,TV.ti,(M.keep (q:=q) rfl).sb⟩
 refine⟨fun us h'=>∃(l k s q:Nat),us=[.int .i64 l,.int .i64 s,.int .i64 q]∧TT[k]? = some (s,q)∧PP[k]? = some (l,b%2^l)∧l≤n∧h'=upd h bm (zQ a c bs ((p+l:Nat):Int) m T)∧nxt cs b (n+1) 0=nxt cs b (n+1-l) l,fun us _=>n-(toInt (us.getD 0 undef)).toNat,⟨0,0,s0,q0,rfl,hT0,by rw[TV.ti.root];simp[Nat.mod_one],by omega,(kM M.hb).symm,rfl⟩,?_⟩
 rintro x y z h' ⟨l,k,s,q,hx1,hT,hP,hl,rfl,hnx⟩
 obtain⟨rfl,rfl,rfl⟩:x=l∧y=s∧z=q:=by simpa using hx1
 obtain⟨f,hf⟩:∃f,n+1-l=f+1:=⟨n-l,by omega⟩
 have hnx2:nxt cs b (n+1) 0=(if s≠0 then(1,(s:Int)-1,(l:Int))else if Ec cs l (b%2^l)then nxt cs b f (l+1)else(0,0,0)):=by rw[hnx,hf,nxt,←TV.ti.sym hT hP]
 have hsub:=(tv ((p+l:Nat):Int)).sb
 have hsy:s≤cs.length:=by
  rw[TV.ti.sym hT hP]
  by_cases h0:Ym cs cs.length l (b%2^l)=0
  ·omega
  ·obtain⟨t,ht,_,_,e⟩:=Ez h0;omega
 have hpl:p+l≤8*bs.length:=by unfold look at hn;omega
 refine⟨fun hs=>?_,fun hs=>⟨fun hq=>?_,fun hq=>?_⟩⟩
 ·rw[hnx2,if_pos (by omega)]
  refine⟨?_,p+l,hpl,rfl,fun _=>by simp only;omega⟩
  unfold Wf
  simp only
  rw[i64_in _ (by omega)]
 ·have hs0:s=0:=by omega
  have hq0:q=0:=by have:(q:Int)=0:=beq_iff_eq.1 hq;omega
  have hE:¬Ec cs l (b%2^l):=fun h=>by
   have:=(TV.ti.ext hT hP).2 (Of.2 h)
   exact this hq0
  rw[hnx2,if_neg (by omega),if_neg hE]
  exact⟨rfl,p+l,hpl,rfl,fun h=>by cases h⟩
 ·have hs0:s=0:=by omega
  have hqn:q≠0:=fun e=>by subst e;simp at hq
  have hE:Ec cs l (b%2^l):=Of.1 ((TV.ti.ext hT hP).1 hqn)
  rw[if_neg (by omega),if_pos hE]at hnx2
  obtain⟨k0,k1⟩:=TV.ti.kid hT hP hqn
  have hkk:=(List.getElem?_eq_some_iff.1 k1).1
  rw[TV.ti.len]at hkk
  have hl15:l<15:=X5 hM hE
  refine⟨_,_,_,rfl,?_⟩
  refine(QV hi hx L (p+l) hpl (M.keep (q:=((p+l:Nat):Int)) rfl)).mono ?_
  rintro _ h4 (⟨e8,rfl,rfl⟩ | ⟨hln,rfl,rfl⟩)
  ·refine⟨_,rfl,fun _=>?_,fun h=>by omega⟩
   have:f=0:=by unfold look at hn;omega
   rw[hnx2,this]
   exact⟨rfl,p+l,hpl,rfl,fun h=>by cases h⟩
  ·rw[yY]
   have hb01:=EP (xs:=bs) (i:=p+l)
   have hlt:l<n:=by unfold look at hn;omega
   have hbit:xy bs (p+l)=((b/2^l%2:Nat):Int):=by rw[hb,Ol hlt]
   rw[hbit]at hb01 ⊢
   refine⟨_,rfl,fun h=>by omega,fun _=>?_⟩
   have w1:IntKind.i64.wrap ((q:Int)+((b/2^l%2:Nat):Int))=((q+b/2^l%2:Nat):Int):=by rw[i64_in _ (by omega)];omega
   have w2:IntKind.i64.wrap ((l:Int)+1)=((l+1:Nat):Int):=by rw[i64_in _ (by omega)];omega
   have hP':PP[q+b/2^l%2]? = some (l+1,b%2^(l+1)):=by
    rw[Mp]
    rcases(show b/2^l%2=0∨b/2^l%2=1 by omega)with h | h <;> rw[h]
    ·simpa using k0
    ·simpa using k1
   obtain⟨s',q',hT'⟩:=TV.ti.get hP'
   have TV':=tv ((p+l+1:Nat):Int)
   obtain⟨g4,g5,g6⟩:=TV'.cell hT'
   rw[w1,w2]
   refine⟨by simp,_,_,_,by simpa[zm]using TV'.ld,by simpa using g6,by omega,by omega,(s':Int),(q':Int),⟨by simp only[Int.toNat_natCast,add_add,Nat.add_zero];exact g4,by simp only[Int.toNat_natCast,add_add];exact g5⟩,⟨l+1,_,s',q',rfl,hT',hP',by omega,rfl,?_⟩,by simp only[List.getD_cons_zero,toInt_int];omega⟩
   rw[hnx2]
   congr 1
   omega
theorem KN{bt:Nat}{TT PP:List (Nat×Nat)}{a2:Option Addr}{c2:Nat}{cs:List (Nat×Nat)}(hi:Eng.Inv S h0)(G:Errs h0)(hx:zj h0 .u8 a bs)(L:bs.length≤1048576)(p:Nat)(hp:p≤8*bs.length)(M:MAt h0 h bm a c bs p m T)
  (TV:TabV h0 h bt TT PP a2 c2 (Em cs cs.length) (Ym cs cs.length))(hTl:TT.length≤20000)(hM:∀c∈cs,c.1≤15)(hbt:bt≠bm)(hbl:ze (.slice a2 TT.length c2)≠some bm)(hsl:Ym cs cs.length 0 0=0)(hcl:cs.length≤1000) :
  zc Tryz.prog S yM #[.pointer (some ⟨bm,0,none⟩),.pointer (some ⟨bt,0,none⟩)] h (fun v h'=>v=.tuple #[.int .i64 (sy bs cs ⟨p,0⟩).2,zA (sy bs cs ⟨p,0⟩).1.k]∧∃p':Nat,p'≤8*bs.length∧h'=upd h bm (zQ a c bs p' m T)∧((sy bs cs ⟨p,0⟩).1.k=0→(p':Int)=(sy bs cs ⟨p,0⟩).1.i)):=by
 refine Cw (vs:=[.pointer (some ⟨bm,0,none⟩),.pointer (some ⟨bt,0,none⟩)]) ⟨rfl,rfl,trivial⟩ (hi.sub M.sb) ?_
 simp only[wC,Tr.wp,zG,Ex.ev,coerce,toInt_int,zb,zh,zB,zI,Cst.val,SV.den,zq,zL,zE,zo,zn,z9,zp,List.flatMap_cons,List.flatMap_nil,List.getD_cons_zero,List.getD_cons_succ,List.map_cons,List.map_nil,List.cons_append,List.nil_append,List.append_nil,Nat.zero_add,and_true,if_false,Bool.false_eq_true]
 refine(Vf hi hx L p hp M TV hTl hM hbt hbl hsl hcl).mono ?_
 rintro _ h1 ⟨rfl,p',hp',rfl,hpe⟩
 have hf:=By (bs:=bs) (cs:=cs) (i:=p)
 have M':=M.keep (q:=(p':Int)) rfl
 have es:sy bs cs ⟨(p:Int),0⟩=(⟨(p:Int)+(nxB bs cs p).2.2,if(nxB bs cs p).1=2 then 2 else if(nxB bs cs p).1=0 then 3 else 0⟩,(nxB bs cs p).2.1):=by unfold sy;rw[if_pos rfl];rfl
 rw[es]
 obtain⟨⟨x1,x2,x3⟩,hxx⟩:∃x,nxB bs cs p=x:=⟨_,rfl⟩
 rw[hxx]at hf hpe ⊢
 simp only at hf hpe ⊢
 have ge:=G.sub M'.sb
 refine⟨_,_,_,rfl,fun h1=>?_,fun h1=>⟨fun h2=>?_,fun h2=>?_⟩⟩
 ·obtain rfl:x1=0:=beq_iff_eq.1 h1
  obtain⟨rfl,rfl⟩:x2=0∧x3=0:=by rcases hf with hf | hf <;> omega
  exact⟨3,ge.e3,rfl,p',hp',rfl,fun h=>by cases h⟩
 ·obtain rfl:x1=2:=beq_iff_eq.1 h2
  obtain⟨rfl,rfl⟩:x2=0∧x3=0:=by rcases hf with hf | hf <;> omega
  exact⟨2,ge.e2,rfl,p',hp',rfl,fun h=>by cases h⟩
 ·have n0:x1≠0:=by simpa using h1
  have n2:x1≠2:=by simpa using h2
  obtain rfl:x1=1:=by rcases hf with hf | hf <;> omega
  exact⟨rfl,p',hp',rfl,fun _=>hpe rfl⟩
end
end
section
variable {S : Shared} {h h0 : Eng.Heap}
def cel(v:Value)(T:TypeId):Obj:=.cells #[v] T
theorem jj{b:Nat}{v:Value}{T:TypeId}(hb:h b=some (cel v T)):zd h ⟨b,0,none⟩=some v:=by simp[zd,hb,cel]
theorem CK{b:Nat}{v:Value}{T:TypeId}(hb:h b=some (cel v T))(hs:¬S b):yC S h ⟨b,0,none⟩:=⟨⟨_,jj hb⟩,by simp[yd,hb,cel],hs⟩
theorem jz{b:Nat}{v w:Value}{T:TypeId}(hb:h b=some (cel v T)):zy h ⟨b,0,none⟩ w=upd h b (cel w T):=by
 rw[hset_cells' hb];rfl
structure LS(h0 h:Eng.Heap)(b1 b2 bm:Nat)(a:Option Addr)(c:Nat)(bs:List Int)(m:MC)(T T1 T2:TypeId)(r:Rd):Prop where
 c1:h b1=some (cel (.pointer (some ⟨bm,0,none⟩)) T1)
 c2:h b2=some (cel (zA r.k) T2)
 mt:∃p':Nat,p'≤8*bs.length∧h bm=some (zQ a c bs p' m T)∧(r.k=0→r.i=p')
 n1:h0 b1=none
 n2:h0 b2=none
 nm:h0 bm=none
 d12:b1≠b2
 d1m:b1≠bm
 d2m:b2≠bm
 sb:Eng.Sub h0 h
section
variable {b1 b2 bm : Nat} {a : Option Addr} {c : Nat} {bs : List Int} {m : MC} {T T1 T2 : TypeId} {r : Rd}
theorem LS.sub{h':Eng.Heap}(H:LS h0 h b1 b2 bm a c bs m T T1 T2 r)(s:Eng.Sub h h'):LS h0 h' b1 b2 bm a c bs m T T1 T2 r:=by
 obtain⟨p',h1,h2,h3⟩:=H.mt
 exact⟨s _ _ H.c1,s _ _ H.c2,⟨p',h1,s _ _ h2,h3⟩,H.n1,H.n2,H.nm,H.d12,H.d1m,H.d2m,H.sb.trans s⟩
theorem LS.err(H:LS h0 h b1 b2 bm a c bs m T T1 T2 r){r':Rd}(hr:r'.k=0→r.k=0∧r'.i=r.i):LS h0 (upd h b2 (cel (zA r'.k) T2)) b1 b2 bm a c bs m T T1 T2 r':=by
 obtain⟨p',h1,h2,h3⟩:=H.mt
 exact⟨(upd_ne H.d12).trans H.c1,upd_same,⟨p',h1,(upd_ne (Ne.symm H.d2m)).trans h2,fun h=>(hr h).2.trans (h3 (hr h).1)⟩,H.n1,H.n2,H.nm,H.d12,H.d1m,H.d2m,fun y o hy=>by rw[upd_ne (fun e=>by rw[e,H.n2]at hy;cases hy)];exact H.sb y o hy⟩
def Oth(b2 bm:Nat)(h h':Eng.Heap):Prop:=∀b,b≠bm→b≠b2→h' b=h b
theorem Oth.Tg{v:Obj}:Oth b2 bm h (upd h b2 v):=fun b _ h2=>upd_ne h2
theorem Oth.Th{v:Obj}:Oth b2 bm h (upd h bm v):=fun b h1 _=>upd_ne h1
theorem Oth.trans{h1 h2:Eng.Heap}(H:Oth b2 bm h h1)(G:Oth b2 bm h1 h2):Oth b2 bm h h2:=fun b x y=>(G b x y).trans (H b x y)
theorem Dm(hi:Eng.Inv S h0)(G:Errs h0)(hx:zj h0 .u8 a bs)(L:bs.length≤1048576)(ok:okR bs r)(H:LS h0 h b1 b2 bm a c bs m T T1 T2 r)(n:Nat)(hn:n≤32) :
  zc Tryz.prog S yj #[.int .i64 n,.pointer (some ⟨b2,0,none⟩),.pointer (some ⟨b1,0,none⟩)] h (fun v h'=>v=.int .i64 (tk bs n r).2∧LS h0 h' b1 b2 bm a c bs m T T1 T2 (tk bs n r).1∧Oth b2 bm h h'):=by
 refine Cx (vs:=[.int .i64 n,.pointer (some ⟨b2,0,none⟩),.pointer (some ⟨b1,0,none⟩)]) ⟨rfl,rfl,rfl,trivial⟩ (hi.sub H.sb) ?_
 simp only[wD,Tr.wp,zG,Ex.ev,coerce,toInt_int,zb,zh,zB,Cst.val,SV.den,zq,zL,zE,zo,zn,z9,zp,zO,List.flatMap_cons,List.flatMap_nil,List.getD_cons_zero,List.getD_cons_succ,List.getElem?_cons_zero,List.map_cons,List.map_nil,List.cons_append,List.nil_append,List.append_nil,List.length_cons,List.length_nil,Nat.zero_add,Nat.add_zero,and_true,if_true,if_false,Bool.false_eq_true,zm]
 refine⟨zA r.k,za,jj H.c2,fun hz=>?_,fun hz _=>?_⟩
 ·rw[za,zt]at hz
  have hk:r.k=0:=of_decide_eq_true hz
  obtain⟨p',hp,hm,he⟩:=H.mt
  obtain⟨i,k⟩:=r
  obtain rfl:k=0:=hk
  obtain rfl:i=(p':Int):=he rfl
  have hp2:∃p2:Nat,p2≤8*bs.length∧(tk bs n ⟨(p':Int),0⟩).1.i=p2:=by
   unfold tk
   rw[if_pos rfl]
   split
   ·exact⟨p',hp,rfl⟩
   ·rename_i h;simp only at h;exact⟨p'+n,by omega,by simp only;omega⟩
  obtain⟨p2,hp2,e2⟩:=hp2
  refine⟨_,jj H.c1,(Fb hi G hx L p' hp n hn ⟨hm,H.nm,H.sb⟩).mono ?_⟩
  rintro _ h1 ⟨rfl,rfl⟩
  have hc2:=(upd_ne (o:=zQ a c bs (tk bs n ⟨(p':Int),0⟩).1.i m T) H.d2m).trans H.c2
  refine⟨_,zA _,za,by rw[za],CK hc2 (fun hs=>hi b2 hs H.n2),fun _=>⟨rfl,?_,?_⟩⟩
  ·rw[za,jz hc2]
   refine⟨(upd_ne H.d12).trans ((upd_ne H.d1m).trans H.c1),upd_same,⟨p2,hp2,by rw[←e2];exact(upd_ne (Ne.symm H.d2m)).trans upd_same,fun _=>e2⟩,H.n1,H.n2,H.nm,H.d12,H.d1m,H.d2m,fun y o hy=>?_⟩
   rw[upd_ne (fun e=>by rw[e,H.n2]at hy;cases hy),upd_ne (fun e=>by rw[e,H.nm]at hy;cases hy)];exact H.sb y o hy
  ·rw[za,jz hc2]
   exact Oth.trans Oth.Th Oth.Tg
 ·rw[za,zt]at hz
  have hk:r.k≠0:=of_decide_eq_false hz
  have e:tk bs n r=(r,0):=by unfold tk;rw[if_neg hk]
  rw[e]
  exact⟨rfl,H,fun _ _ _=>rfl⟩
def mkL(h0:Eng.Heap)(l:List Nat):Eng.Heap:=fun z=>if z∈l then some (cel .nilIface 0)else h0 z
theorem qQ{l:List Nat}{z:Nat}:mkL h0 l z=none↔z∉l∧h0 z=none:=by
 unfold mkL
 by_cases h:z∈l
 ·rw[if_pos h];simp[h]
 ·rw[if_neg h];simp[h]
abbrev mk2(h0:Eng.Heap)(b1 b2 bm:Nat):Eng.Heap:=mkL h0 [b1,b2,bm]
theorem kZ{z:Nat}(H:mk2 h0 b1 b2 bm z=none):z≠bm∧z≠b2∧z≠b1∧h0 z=none:=by
 obtain⟨h1,h2⟩:=qQ.1 H
 simp only[List.mem_cons,List.not_mem_nil,or_false,not_or]at h1
 exact⟨h1.2.2,h1.2.1,h1.1,h2⟩
theorem QW{z:Nat}(h1:z≠bm)(h2:z≠b2)(h3:z≠b1)(H:h0 z=none):mk2 h0 b1 b2 bm z=none:=qQ.2 ⟨by simp[h1,h2,h3],H⟩
theorem NM.base{v:Value}(N:Eng.New (mk2 h0 b1 b2 bm) v):Eng.New h0 v:=fun z hz=>(kZ (N z hz)).2.2.2
theorem LS.free(H:LS h0 h b1 b2 bm a c bs m T T1 T2 r){z:Nat}(hz:h z=none):mk2 h0 b1 b2 bm z=none:=by
 obtain⟨p',_,h2,_⟩:=H.mt
 exact QW (fun e=>by rw[e,h2]at hz;cases hz) (fun e=>by rw[e,H.c2]at hz;cases hz) (fun e=>by rw[e,H.c1]at hz;cases hz) (zN H.sb hz)
theorem LS.new(H:LS h0 h b1 b2 bm a c bs m T T1 T2 r){z l k:Nat}(hz:h z=none):Eng.New (mk2 h0 b1 b2 bm) (.slice (some ⟨z,0,none⟩) l k):=New.of (H.free hz)
theorem LS.kept(H:LS h0 h b1 b2 bm a c bs m T T1 T2 r){h':Eng.Heap}{v:Value}(N:Eng.New (mk2 h0 b1 b2 bm) v)(hk:∀b,h b≠none→ze v≠some b→h' b=h b)(s:Eng.Sub h0 h'):LS h0 h' b1 b2 bm a c bs m T T1 T2 r:=by
 obtain⟨p',h1,h2,h3⟩:=H.mt
 have e1:=hk b1 (by rw[H.c1];simp) fun e=>(kZ (N b1 e)).2.2.1 rfl
 have e2:=hk b2 (by rw[H.c2];simp) fun e=>(kZ (N b2 e)).2.1 rfl
 have e3:=hk bm (by rw[h2];simp) fun e=>(kZ (N bm e)).1 rfl
 exact⟨e1.trans H.c1,e2.trans H.c2,⟨p',h1,e3.trans h2,h3⟩,H.n1,H.n2,H.nm,H.d12,H.d1m,H.d2m,s⟩
theorem NM.keep{h':Eng.Heap}{k:IntKind}{v:Value}{xs:List Int}(N:Eng.New (mk2 h0 b1 b2 bm) v)(P:Part k h v xs)(O:Oth b2 bm h h'):Part k h' v xs:=P.keep fun z hz=>O z (kZ (N z hz)).1 (kZ (N z hz)).2.1
def wM(h0:Eng.Heap)(bm:Nat)(a:Option Addr)(c:Nat)(bs:List Int)(m:MC)(T:TypeId)(F:Rd×List Int×List Int)(v:Value)(h':Eng.Heap):Prop:=
 ∃u w,v=.tuple #[u,w,zA F.1.k]∧(∃p':Nat,p'≤8*bs.length∧MAt h0 h' bm a c bs p' m T∧(F.1.k=0→F.1.i=p'))∧(F.1.k=0→Part .i64 h' u F.2.1∧Part .i64 h' w F.2.2∧Eng.New h0 u∧Eng.New h0 w)∧(∃a1 l1 c1 a2 l2 c2,u=.slice a1 l1 c1∧w=.slice a2 l2 c2)
theorem LS.bad(H:LS h0 h b1 b2 bm a c bs m T T1 T2 r){F:Rd×List Int×List Int}(hF:F.1.k≠0){e:Value}(he:e=zA F.1.k):wM h0 bm a c bs m T F (.tuple #[.slice none 0 0,.slice none 0 0,e]) h:=by
 subst he
 obtain⟨p',h1,h2,h3⟩:=H.mt
 exact⟨_,_,rfl,⟨p',h1,⟨h2,H.nm,H.sb⟩,fun h=>absurd h hF⟩,fun h=>absurd h hF,⟨_,_,_,_,_,_,rfl,rfl⟩⟩
theorem LS.fail(hi:Eng.Inv S h0)(G:Errs h0)(H:LS h0 h b1 b2 bm a c bs m T T1 T2 r){F:Rd×List Int×List Int}(hF:F.1.k=3) :
  ∃x,zd h ⟨1,0,none⟩=some (Value.int .i64 x)∧yC S h ⟨b2,0,none⟩∧∃v,jN v=v∧zd (zy h ⟨b2,0,none⟩ (.iface tCl (.agg (xF (.tuple (#[.int .i64 x]++xF (.tuple #[]))))))) ⟨b2,0,none⟩=some v ∧
   wM h0 bm a c bs m T F (.tuple #[.slice none 0 0,.slice none 0 0,jN v]) (zy h ⟨b2,0,none⟩ (.iface tCl (.agg (xF (.tuple (#[.int .i64 x]++xF (.tuple #[]))))))):=by
 have e3:(.iface tCl (.agg (xF (.tuple (#[.int .i64 3]++xF (.tuple #[]))))):Value)=zA (3:Int):=rfl
 have H':=H.err (r':=⟨0,3⟩) (fun h=>by cases h)
 refine⟨3,(G.sub H.sb).e3,CK H.c2 (fun hs=>hi b2 hs H.n2),zA 3,za,?_,?_⟩
 ·rw[e3,jz H.c2];exact jj upd_same
 ·rw[e3,jz H.c2,za]
  exact H'.bad (by omega) (by rw[hF])
theorem X8(hi:Eng.Inv S h0)(G:Errs h0)(H:LS h0 h b1 b2 bm a c bs m T T1 T2 r)(hk:r.k=0){all:List Int}{aa:Option Addr}{ca:Nat}(P:Part .i64 h (.slice aa all.length ca) all)(N:Eng.New (mk2 h0 b1 b2 bm) (.slice aa all.length ca)){x3:Int}(hx3:0≤x3∧x3<32)
  (hlen:(x3+257).toNat+1≤all.length∧all.length≤1000)(K0 K1 K2 K3 K4 K5:Kt)(e0 e1 e4 e5 e6 e7 e8 e9 e10 e11 e12 e13 e14:Value) :
  mlE.wp Tryz.prog S yg (wM h0 bm a c bs m T (Gr (x3+257).toNat r all)) [e0,e1,.pointer (some ⟨b2,0,none⟩),.int .i64 x3,e4,e5,e6,e7,e8,e9,e10,e11,e12,e13,e14,.slice aa all.length ca] h [K0,K1,K2,K3,K4,K5]:=by
 obtain⟨n6,rfl⟩:=Int.eq_ofNat_of_zero_le hx3.1
 have w6:IntKind.i64.wrap ((n6:Int)+257)=((n6+257:Nat):Int):=by rw[i64_in _ (by omega)];omega
 have e6:((n6:Int)+257).toNat=n6+257:=by omega
 rw[e6]at hlen ⊢
 simp only[mlE,Tr.wp,zG,Ex.ev,coerce,toInt_int,zb,zf,zi,zg,zh,wz,Bd,AQ,BY,zI,arith,Cst.val,SV.den,zq,zL,zE,zo,zn,z9,zp,zO,List.flatMap_cons,List.flatMap_nil,List.getD_cons_zero,List.getD_cons_succ,decide_eq_true_eq,List.map_cons,List.map_nil,List.cons_append,List.nil_append,List.append_nil,Nat.add_zero,and_true,if_false,Bool.false_eq_true,zm,w6]
 obtain⟨l1,l2⟩:=hlen
 have e:Gr (n6+257) r all=(bd (Kb (all.take (n6+257)) (all.drop (n6+257))) r,all.take (n6+257),all.drop (n6+257)):=if_pos hk
 rw[e]
 obtain⟨_,_,ei,hca,gi⟩:=P.ints
 cases ei
 obtain⟨aL,cL,eL,PL,NL,nL⟩:=P.Yi N (n:=n6+257) (m:=n6+257) (by omega) (by omega) (by omega)
 obtain⟨aR,cR,eR,PR,NR⟩:=P.from N (n:=n6+257) (by omega) hca
 rw[Int.toNat_natCast,eL,eR]
 have lL:(all.take (n6+257)).length=n6+257:=by rw[List.length_take];omega
 obtain⟨_,_,ei,_,gL⟩:=PL.ints
 cases ei
 obtain⟨_,_,ei,_,gR⟩:=PR.ints
 cases ei
 refine⟨by omega,by omega,by omega,by omega,by omega,by omega,?_⟩
 refine(qB (hi.sub H.sb) aL cL _ gL).mono ?_
 rintro _ hq ⟨rfl,rfl⟩
 refine⟨_,rfl,?_⟩
 refine(qB (hi.sub H.sb) aR cR _ gR).mono ?_
 rintro _ hq ⟨rfl,rfl⟩
 refine⟨_,rfl,?_⟩
 have g256:(all.take (n6+257))[256]? = some ((all.take (n6+257)).getD 256 0):=by simp[List.getD,show 256<all.length by omega]
 obtain⟨g1,g2⟩:=gL.cell g256
 have hbad:Kb (all.take (n6+257)) (all.drop (n6+257))=((all.take (n6+257)).getD 256 0==0||(!(zu (all.take (n6+257))==1||zu (all.take (n6+257))==4)) || !(zu (all.drop (n6+257))==1||zu (all.drop (n6+257))==4||zu (all.drop (n6+257))==5)):=rfl
 generalize Kb (all.take (n6+257)) (all.drop (n6+257))=B at hbad ⊢
 generalize (all.take (n6+257)).getD 256 0=y at g1 hbad
 refine⟨by rw[yi,nL (by omega)];rfl,by simp,by simp only[zf,lL];omega,y,by simp only[zg,add_add];exact g1,?_⟩
 clear gi g1 g256
 refine⟨fun hb=>?_,fun hb=>?_⟩
 ·have hB:B=true:=by
   rw[hbad]
   simp only[bne,Bool.decide_eq_true]at hb
   revert hb
   cases (y==0) <;> cases (zu (all.take (n6+257))==1) <;> cases (zu (all.take (n6+257))==4) <;> cases (zu (all.drop (n6+257))==1) <;> cases (zu (all.drop (n6+257))==4) <;> cases (zu (all.drop (n6+257))==5) <;> simp
  subst hB
  exact H.fail hi G (by simp[bd,hk])
 ·have hB:B=false:=by
   rw[hbad]
   simp only[bne,Bool.decide_eq_true]at hb
   revert hb
   cases (y==0) <;> cases (zu (all.take (n6+257))==1) <;> cases (zu (all.take (n6+257))==4) <;> cases (zu (all.drop (n6+257))==1) <;> cases (zu (all.drop (n6+257))==4) <;> cases (zu (all.drop (n6+257))==5) <;> simp
  subst hB
  have H':=H.err (r':=r) (fun h=>⟨hk,rfl⟩)
  rw[hk,QU]at H'
  refine⟨CK H.c2 (fun hs=>hi b2 hs H.n2),.nilIface,rfl,?_,?_⟩
  ·rw[jz H.c2];exact jj upd_same
  ·rw[jz H.c2]
   obtain⟨p',q1,q2,q3⟩:=H'.mt
   have eb:bd false r=r:=by unfold bd;rw[if_neg (by simp)]
   rw[eb]
   refine⟨_,_,by rw[hk];rfl,⟨p',q1,⟨q2,H.nm,H'.sb⟩,q3⟩,fun _=>⟨NM.keep NL PL Oth.Tg,NM.keep NR PR Oth.Tg,NM.base NL,NM.base NR⟩,⟨_,_,_,_,_,_,rfl,rfl⟩⟩
end
end
section
variable {S : Shared} {h h0 : Eng.Heap}
section
variable {b1 b2 bm bt : Nat} {a : Option Addr} {c : Nat} {bs : List Int} {m : MC} {T T1 T2 : TypeId} {r : Rd} {TT PP : List (Nat × Nat)} {a2 : Option Addr} {c2 : Nat} {cs : List (Nat × Nat)}
structure Tb(h0 h:Eng.Heap)(b1 b2 bm bt:Nat)(TT PP:List (Nat×Nat))(a2:Option Addr)(c2:Nat)(cs:List (Nat×Nat)):Prop where
 tv:TabV h0 h bt TT PP a2 c2 (Em cs cs.length) (Ym cs cs.length)
 dt:bt≠b1∧bt≠b2∧bt≠bm
 ds:∀z,ze (.slice a2 TT.length c2)=some z→z≠b1∧z≠b2∧z≠bm
abbrev mkT(h0:Eng.Heap)(b1 b2 bm bt:Nat)(a2:Option Addr)(n c2:Nat):Eng.Heap:=mkL h0 ([b1,b2,bm,bt]++(ze (.slice a2 n c2)).toList)
theorem CL{z n:Nat}:mkT h0 b1 b2 bm bt a2 n c2 z=none↔z≠b1∧z≠b2∧z≠bm∧z≠bt∧ze (.slice a2 n c2)≠some z∧h0 z=none:=by
 rw[qQ]
 cases ze (.slice a2 n c2)with
 | none=>simp[and_assoc]
 | some y=>simp[and_assoc,eq_comm]
theorem Ti{v:Value}{n:Nat}(N:Eng.New (mkT h0 b1 b2 bm bt a2 n c2) v):Eng.New h0 v:=fun z hz=>(CL.1 (N z hz)).2.2.2.2.2
theorem Cb{v:Value}{n:Nat}(N:Eng.New (mkT h0 b1 b2 bm bt a2 n c2) v):Eng.New (mk2 h0 b1 b2 bm) v:=fun z hz=>by
 have:=CL.1 (N z hz)
 exact QW this.2.2.1 this.2.1 this.1 this.2.2.2.2.2
theorem Tb.free(B:Tb h0 h b1 b2 bm bt TT PP a2 c2 cs)(H:LS h0 h b1 b2 bm a c bs m T T1 T2 r){z:Nat}(hz:h z=none):mkT h0 b1 b2 bm bt a2 TT.length c2 z=none:=by
 obtain⟨h1,h2,h3,h4⟩:=kZ (H.free hz)
 refine CL.2 ⟨h3,h2,h1,fun e=>?_,fun e=>B.tv.ow.held z e hz,h4⟩
 obtain⟨TY,hb⟩:=B.tv.hb
 rw[e,hb]at hz;cases hz
theorem Tb.new(B:Tb h0 h b1 b2 bm bt TT PP a2 c2 cs)(H:LS h0 h b1 b2 bm a c bs m T T1 T2 r){z l k:Nat}(hz:h z=none):Eng.New (mkT h0 b1 b2 bm bt a2 TT.length c2) (.slice (some ⟨z,0,none⟩) l k):=New.of (B.free H hz)
theorem Tb.app(B:Tb h0 h b1 b2 bm bt TT PP a2 c2 cs)(H:LS h0 h b1 b2 bm a c bs m T T1 T2 r){v v':Value}(N:Eng.New (mkT h0 b1 b2 bm bt a2 TT.length c2) v)(hr:ze v'=ze v∨Eng.New h v'):Eng.New (mkT h0 b1 b2 bm bt a2 TT.length c2) v':=fun z hz=>by
 rcases hr with hr | hr
 ·exact N z (hr▸hz)
 ·exact B.free H (hr z hz)
theorem Tb.same(B:Tb h0 h b1 b2 bm bt TT PP a2 c2 cs){h':Eng.Heap}(h1:h' bt=h bt)(h2:∀z,ze (.slice a2 TT.length c2)=some z→h' z=h z)(s:Eng.Sub h0 h'):Tb h0 h' b1 b2 bm bt TT PP a2 c2 cs:=
 ⟨⟨by obtain⟨TY,hb⟩:=B.tv.hb;exact⟨TY,h1.trans hb⟩,B.tv.ow.keep h2,B.tv.nw,B.tv.nb,B.tv.ne,B.tv.ti,s⟩,B.dt,B.ds⟩
theorem Tb.sub(B:Tb h0 h b1 b2 bm bt TT PP a2 c2 cs){h':Eng.Heap}(s:Eng.Sub h h'):Tb h0 h' b1 b2 bm bt TT PP a2 c2 cs:=by
 refine B.same ?_ (fun z hz=>?_) (B.tv.sb.trans s)
 ·obtain⟨TY,hb⟩:=B.tv.hb
  rw[hb];exact s _ _ hb
 ·have:=B.tv.ow.held z hz
  cases e:h z with
  | none=>exact absurd e this
  | some o=>exact s _ _ e
theorem Tb.oth(B:Tb h0 h b1 b2 bm bt TT PP a2 c2 cs){h':Eng.Heap}(O:Oth b2 bm h h')(s:Eng.Sub h0 h'):Tb h0 h' b1 b2 bm bt TT PP a2 c2 cs:=
 B.same (O bt B.dt.2.2 B.dt.2.1) (fun z hz=>O z (B.ds z hz).2.2 (B.ds z hz).2.1) s
theorem Tb.kept(B:Tb h0 h b1 b2 bm bt TT PP a2 c2 cs){h':Eng.Heap}{v:Value}(N:Eng.New (mkT h0 b1 b2 bm bt a2 TT.length c2) v)(hk:∀b,h b≠none→ze v≠some b→h' b=h b)(s:Eng.Sub h0 h'):Tb h0 h' b1 b2 bm bt TT PP a2 c2 cs:=by
 refine B.same (hk bt ?_ fun e=>(CL.1 (N bt e)).2.2.2.1 rfl) (fun z hz=>hk z (B.tv.ow.held z hz) fun e=>(CL.1 (N z e)).2.2.2.2.1 hz) s
 obtain⟨TY,hb⟩:=B.tv.hb
 rw[hb];simp
theorem X9(hi:Eng.Inv S h0)(G:Errs h0)(H:LS h0 h b1 b2 bm a c bs m T T1 T2 r)(B:Tb h0 h b1 b2 bm bt TT PP a2 c2 cs){all:List Int}{aa:Option Addr}{ca:Nat}(P:Part .i64 h (.slice aa all.length ca) all)(N:Eng.New (mkT h0 b1 b2 bm bt a2 TT.length c2) (.slice aa all.length ca))(hl:all.length≤1000){n3 n5:Nat}(h3:n3<32)(h5:n5<32)(t:Nat)(ht:t≤1000)(w:Int){F:Rd×List Int×List Int}
  (hF:r.k≠0→F.1.k=r.k)(hover:r.k=0→n3+257+(n5+1)<all.length+t→F.1.k=3)(K0 K1 K2 K3 K4 K5 K6:Kt)
  (hgo:r.k=0→all.length+t≤n3+257+(n5+1)→∀a' c' h',LS h0 h' b1 b2 bm a c bs m T T1 T2 r→Tb h0 h' b1 b2 bm bt TT PP a2 c2 cs→Part .i64 h' (.slice a' (all++List.replicate t w).length c') (all++List.replicate t w)→Eng.New (mkT h0 b1 b2 bm bt a2 TT.length c2) (.slice a' (all++List.replicate t w).length c')→K4 [.slice a' (all++List.replicate t w).length c'] h')
  (e0 e1 e4 e6 e7 e8 e9 e10 e11 e12 e13 e14 e16 e17 e18:Value) :
  mlR.wp Tryz.prog S yg (wM h0 bm a c bs m T F) [e0,e1,.pointer (some ⟨b2,0,none⟩),.int .i64 n3,e4,.int .i64 n5,e6,e7,e8,e9,e10,e11,e12,e13,e14,.slice aa all.length ca,e16,e17,e18,.int .i64 w,.int .i64 t] h [K0,K1,K2,K3,K4,K5,K6]:=by
 have w3:IntKind.i64.wrap ((n3:Int)+257)=((n3+257:Nat):Int):=by rw[i64_in _ (by omega)];omega
 have w5:IntKind.i64.wrap ((n5:Int)+1)=((n5+1:Nat):Int):=by rw[i64_in _ (by omega)];omega
 have wt:IntKind.i64.wrap (((n3+257:Nat):Int)+((n5+1:Nat):Int))=((n3+257+(n5+1):Nat):Int):=by rw[i64_in _ (by omega)];omega
 have ws:IntKind.i64.wrap (((n3+257+(n5+1):Nat):Int)-(all.length:Int))=((n3+257+(n5+1):Nat):Int)-(all.length:Int):=i64_in _ (by omega)
 simp only[mlR,Tr.wp,Ex.ev,coerce,toInt_int,zb,zf,zi,zg,zh,zI,arith,Cst.val,SV.den,z9,zU,zp,zO,List.getD_cons_zero,List.getD_cons_succ,List.getElem?_cons_zero,List.getElem?_cons_succ,decide_eq_true_eq,decide_eq_false_iff_not,List.map_cons,List.map_nil,List.cons_append,List.nil_append,Nat.add_zero,and_true,if_false,Bool.false_eq_true,zm,w3,w5,wt,ws]
 refine⟨zA r.k,za,jj H.c2,fun hz=>?_,fun hz=>⟨fun hgt=>?_,fun hle=>?_⟩⟩
 ·rw[za,zt]at hz
  have hk:r.k≠0:=by simpa using hz
  refine⟨zA r.k,za,jj H.c2,CK H.c2 (fun hs=>hi b2 hs H.n2),zA r.k,za,?_,?_⟩
  ·rw[za,jz H.c2];exact jj upd_same
  ·rw[za,jz H.c2]
   have H':=H.err (r':=r) (fun h=>⟨h,rfl⟩)
   exact H'.bad (by rw[hF hk];exact hk) (by rw[hF hk])
 ·rw[za,zt]at hz
  have hk:r.k=0:=by simpa using hz
  exact H.fail hi G (hover hk (by omega))
 ·rw[za,zt]at hz
  have hk:r.k=0:=by simpa using hz
  have hle2:all.length+t≤n3+257+(n5+1):=by omega
  refine⟨fun us h'=>∃(i:Nat) (a':Option Addr) (c':Nat),us=[.slice a' (all++List.replicate i w).length c',.int .i64 i]∧i≤t∧Part .i64 h' (.slice a' (all++List.replicate i w).length c') (all++List.replicate i w)∧Eng.New (mkT h0 b1 b2 bm bt a2 TT.length c2) (.slice a' (all++List.replicate i w).length c')∧LS h0 h' b1 b2 bm a c bs m T T1 T2 r∧Tb h0 h' b1 b2 bm bt TT PP a2 c2 cs,
   fun us _=>t-(toInt (us.getD 1 undef)).toNat,⟨0,aa,ca,by simp,by omega,by simpa using P,by simpa using N,H,B⟩,?_⟩
  rintro a1 l1 c1 y h' ⟨i,a2',c2',hx1,hi2,P2,N2,H2,B2⟩
  simp only[List.cons.injEq,Value.int.injEq,Value.slice.injEq,true_and,and_true]at hx1
  obtain⟨⟨rfl,rfl,rfl⟩,rfl⟩:=hx1
  refine⟨fun hlt b hnb=>?_,fun hge=>?_⟩
  ·have w2:IntKind.i64.wrap ((i:Int)+1)=((i+1:Nat):Int):=by rw[i64_in _ (by omega)];omega
   have sb:Eng.Sub h' (upd h' b (.cells (ints .i64 [w]) 2)):=Sub.zC hnb
   have H3:=H2.sub sb
   have B3:=B2.sub sb
   have hlen:(all++List.replicate i w).length=all.length+i:=by simp
   refine zJ (xs:=all++List.replicate i w) (a:=some ⟨b,0,none⟩) (c:=1) hi H3.sb (P2.sub sb) (Ti N2) (ys:=[w]) zj.new (by rw[hlen];simp only[List.length_singleton];omega) fun v' h3 o n3 s4 hk4 hr4=>?_
   have el:(all++List.replicate i w)++[w]=all++List.replicate (i+1) w:=by rw[List.append_assoc,List.replicate_succ']
   rw[el]at o
   have N4:=B3.app H3 N2 hr4
   have H4:=H3.kept (Cb N2) hk4 s4
   have B4:=B3.kept N2 hk4 s4
   obtain⟨a4,c4,rfl,_,_⟩:=o.ints
   simp only[zg,zf,zi,w2]
   exact⟨⟨i+1,a4,c4,rfl,by omega,o,N4,H4,B4⟩,by simp only[List.getD_cons_succ,List.getD_cons_zero,toInt_int,Int.toNat_natCast];omega⟩
  ·obtain rfl:i=t:=by omega
   exact hgo hk hle2 _ _ _ H2 B2 P2 N2
theorem XA(hi:Eng.Inv S h0)(G:Errs h0)(hx:zj h0 .u8 a bs)(L:bs.length≤1048576)(H:LS h0 h b1 b2 bm a c bs m T T1 T2 r)(hk:r.k=0)(B:Tb h0 h b1 b2 bm bt TT PP a2 c2 cs)(hM:∀c∈cs,c.1≤15)(hTl:TT.length≤20000)(hcl:cs.length≤1000)
  {all:List Int}{aa:Option Addr}{ca:Nat}(P:Part .i64 h (.slice aa all.length ca) all)(N:Eng.New (mkT h0 b1 b2 bm bt a2 TT.length c2) (.slice aa all.length ca)){n3 n5:Nat}(h3:n3<32)(h5:n5<32)(hl:all.length<n3+257+(n5+1)){F:Rd×List Int×List Int}
  (hF:(lg1 bs cs (n3+257+(n5+1)) r all).1.k≠0→F.1.k=(lg1 bs cs (n3+257+(n5+1)) r all).1.k)(K0 K1 K2 K3 K4 K5:Kt)
  (hgo:(lg1 bs cs (n3+257+(n5+1)) r all).1.k=0→∀a' c' h',LS h0 h' b1 b2 bm a c bs m T T1 T2 (lg1 bs cs (n3+257+(n5+1)) r all).1→Tb h0 h' b1 b2 bm bt TT PP a2 c2 cs→Part .i64 h' (.slice a' (lg1 bs cs (n3+257+(n5+1)) r all).2.length c') (lg1 bs cs (n3+257+(n5+1)) r all).2→Eng.New (mkT h0 b1 b2 bm bt a2 TT.length c2) (.slice a' (lg1 bs cs (n3+257+(n5+1)) r all).2.length c')→K4 [.slice a' (lg1 bs cs (n3+257+(n5+1)) r all).2.length c'] h')
  (e0 e4 e6 e7 e8 e9 e10 e11 e12 e14:Value) :
  mlB.wp Tryz.prog S yg (wM h0 bm a c bs m T F) [e0,.pointer (some ⟨b1,0,none⟩),.pointer (some ⟨b2,0,none⟩),.int .i64 n3,e4,.int .i64 n5,e6,e7,e8,e9,e10,e11,e12,.pointer (some ⟨bt,0,none⟩),e14,.slice aa all.length ca] h [K0,K1,K2,K3,K4,K5]:=by
 simp only[mlB,Tr.wp,zG,Ex.ev,coerce,toInt_int,zb,zf,zi,zg,zh,zB,yi,zI,arith,Cst.val,SV.den,zq,zL,zE,zo,zn,z9,zp,zO,List.flatMap_cons,List.flatMap_nil,List.getD_cons_zero,List.getD_cons_succ,List.getElem?_cons_zero,List.getElem?_cons_succ,decide_eq_true_eq,List.map_cons,List.map_nil,List.cons_append,List.nil_append,List.append_nil,List.length_cons,List.length_nil,Nat.zero_add,Nat.add_zero,and_true,if_true,if_false,Bool.false_eq_true,zm]
 obtain⟨p',hp,hm,he⟩:=H.mt
 obtain⟨i,k⟩:=r
 obtain rfl:k=0:=hk
 obtain rfl:i=(p':Int):=he rfl
 refine⟨_,jj H.c1,?_⟩
 refine(KN hi G hx L p' hp ⟨hm,H.nm,H.sb⟩ B.tv hTl hM B.dt.2.2 (fun e=>(B.ds bm e).2.2 rfl) (Mn _) hcl).mono ?_
 rintro _ h1 ⟨rfl,p2,hp2,rfl,hpe⟩
 have H1:∀r':Rd,r'.k=0→r'.i=(p2:Int)→LS h0 (upd h bm (zQ a c bs p2 m T)) b1 b2 bm a c bs m T T1 T2 r':=fun r' q1 q2=>
  ⟨(upd_ne H.d1m).trans H.c1,by rw[q1];exact(upd_ne H.d2m).trans H.c2,⟨p2,hp2,upd_same,fun _=>q2⟩,H.n1,H.n2,H.nm,H.d12,H.d1m,H.d2m,fun y o hy=>by rw[upd_ne (fun e=>by rw[e,H.nm]at hy;cases hy)];exact H.sb y o hy⟩
 have B1:Tb h0 (upd h bm (zQ a c bs p2 m T)) b1 b2 bm bt TT PP a2 c2 cs:=B.oth Oth.Th (H1 ⟨p2,0⟩ rfl rfl).sb
 have P1:Part .i64 (upd h bm (zQ a c bs p2 m T)) (.slice aa all.length ca) all:=NM.keep (Cb N) P Oth.Th
 generalize upd h bm (zQ a c bs p2 m T)=h1 at H1 B1 P1 ⊢
 obtain⟨tot,htot⟩:∃tot,tot=n3+257+(n5+1):=⟨_,rfl⟩
 rw[←htot]at hF hgo hl
 have elg:lg1 bs cs tot ⟨(p':Int),0⟩ all=if(sy bs cs ⟨(p':Int),0⟩).1.k=0 then(bd (decide (tot<(rp bs (sy bs cs ⟨(p':Int),0⟩).1 all (sy bs cs ⟨(p':Int),0⟩).2).2.length)) (rp bs (sy bs cs ⟨(p':Int),0⟩).1 all (sy bs cs ⟨(p':Int),0⟩).2).1,(rp bs (sy bs cs ⟨(p':Int),0⟩).1 all (sy bs cs ⟨(p':Int),0⟩).2).2)else((sy bs cs ⟨(p':Int),0⟩).1,all):=rfl
 obtain⟨⟨r1,x⟩,hs⟩:∃q,sy bs cs ⟨(p':Int),0⟩=q:=⟨_,rfl⟩
 rw[hs]at elg hpe ⊢
 simp only at elg hpe ⊢
 refine⟨x,zA r1.k,za,by rw[za],fun hz=>?_,fun hz=>?_⟩
 ·rw[za,zt]at hz
  have hk1:r1.k≠0:=by simpa using hz
  rw[if_neg hk1]at elg
  rw[elg]at hF
  have H2:=H1 ⟨p2,0⟩ rfl rfl
  refine⟨CK H2.c2 (fun hs=>hi b2 hs H.n2),zA r1.k,za,?_,?_⟩
  ·rw[za,jz H2.c2];exact jj upd_same
  ·rw[za,jz H2.c2]
   have H':=H2.err (r':=r1) (fun h=>absurd h hk1)
   exact H'.bad (by rw[hF hk1];exact hk1) (by rw[hF hk1])
 ·rw[za,zt]at hz
  have hk1:r1.k=0:=by simpa using hz
  rw[if_pos hk1]at elg
  have H2:=H1 r1 hk1 (hpe hk1).symm
  have ok1:okR bs r1:=fun _=>by rw[←hpe hk1];omega
  have fin:∀(r2:Rd) (t:Nat) (w:Int) (h':Eng.Heap),rp bs r1 all x=(r2,if r2.k=0 then all++List.replicate t w else all)→t≤1000→LS h0 h' b1 b2 bm a c bs m T T1 T2 r2→Tb h0 h' b1 b2 bm bt TT PP a2 c2 cs→Part .i64 h' (.slice aa all.length ca) all→∀e16 e17 e18,
    mlR.wp Tryz.prog S yg (wM h0 bm a c bs m T F) [e0,.pointer (some ⟨b1,0,none⟩),.pointer (some ⟨b2,0,none⟩),.int .i64 n3,e4,.int .i64 n5,e6,e7,e8,e9,e10,e11,e12,.pointer (some ⟨bt,0,none⟩),e14,.slice aa all.length ca,e16,e17,e18,.int .i64 w,.int .i64 t] h' [K0,K1,K2,K3,K4,K5,fun _ _=>False]:=by
   intro r2 t w h' erp ht H3 B3 P3 e16 e17 e18
   rw[erp]at elg
   simp only at elg
   refine X9 hi G H3 B3 P3 N (by omega) h3 h5 t ht w (fun hk2=>?_) (fun hk2 hov=>?_) K0 K1 K2 K3 K4 K5 _ (fun hk2 hle a' c' h'' H4 B4 P4 N4=>?_) _ _ _ _ _ _ _ _ _ _ _ _ _ _ _
   ·have e:bd (decide (tot<(if r2.k=0 then all++List.replicate t w else all).length)) r2=r2:=by unfold bd;rw[if_neg (fun h=>hk2 h.1)]
    rw[e]at elg
    rw[elg]at hF
    exact hF hk2
   ·have e:(bd (decide (tot<(if r2.k=0 then all++List.replicate t w else all).length)) r2).k=3:=by
     rw[if_pos hk2,decide_eq_true (by rw[List.length_append,List.length_replicate];omega)];unfold bd;rw[if_pos ⟨hk2,rfl⟩]
    rw[elg]at hF
    rw[hF (by rw[e];decide),e]
   ·have e:lg1 bs cs tot ⟨(p':Int),0⟩ all=(r2,all++List.replicate t w):=by
     rw[elg,if_pos hk2,decide_eq_false (by rw[List.length_append,List.length_replicate];omega)];unfold bd;rw[if_neg (fun h=>by cases h.2)]
    rw[e]at hgo
    exact hgo hk2 a' c' h'' H4 B4 P4 N4
  have n2:=yD (bs:=bs) (n:=2) (r:=r1)
  have nn3:=yD (bs:=bs) (n:=3) (r:=r1)
  have n7:=yD (bs:=bs) (n:=7) (r:=r1)
  have q2:(2:Int)^2=4:=by decide
  have q3:(2:Int)^3=8:=by decide
  have q7:(2:Int)^7=128:=by decide
  refine⟨fun h16=>⟨fun h0=>?_,fun h0=>?_⟩,fun h16=>⟨fun h17=>?_,fun h17=>⟨fun h18=>?_,fun h18 _ _ _=>?_⟩⟩⟩
  ·obtain rfl:x=16:=beq_iff_eq.1 h16
   have hall:all.length=0:=by have:(all.length:Int)=0:=beq_iff_eq.1 h0;omega
   refine H2.fail hi G ?_
   have e1:(rp bs r1 all 16).1.k=3:=by
    unfold rp
    rw[if_pos rfl]
    have eb:bd (all.length==0) r1=⟨r1.i,3⟩:=by unfold bd;rw[if_pos ⟨hk1,by rw[hall];rfl⟩]
    rw[eb];unfold tk;rw[if_neg (by simp)]
   have e2:(lg1 bs cs tot ⟨(p':Int),0⟩ all).1.k=3:=by
    rw[elg];simp only;unfold bd;rw[if_neg (fun h=>by rw[e1]at h;cases h.1)];exact e1
   rw[hF (by rw[e2];decide),e2]
  ·obtain rfl:x=16:=beq_iff_eq.1 h16
   have hall:all.length≠0:=fun e=>by rw[e]at h0;cases h0
   have wl:IntKind.i64.wrap ((all.length:Int)-1)=((all.length-1:Nat):Int):=by rw[i64_in _ (by omega)];omega
   have wt:IntKind.i64.wrap ((tk bs 2 r1).2+3)=(((tk bs 2 r1).2+3).toNat:Int):=by rw[i64_in _ (by omega)];omega
   obtain⟨_,_,ei,_,gi⟩:=P1.ints
   cases ei
   have g? : all[all.length-1]? = some (all.getD (all.length-1) 0):=by simp[List.getD,List.getElem?_eq_getElem (show all.length-1<all.length by omega)]
   obtain⟨g1,g2⟩:=gi.cell g?
   have eb:bd (all.length==0) r1=r1:=by unfold bd;rw[if_neg (fun h=>hall (by simpa using h.2))]
   rw[wl]
   refine⟨by simpa using g2,by omega,by omega,_,by simp only[Int.toNat_natCast,Nat.mul_one,add_add,Nat.add_zero];exact g1,?_⟩
   refine(Dm hi G hx L ok1 H2 2 (by omega)).mono ?_
   rintro _ h2 ⟨rfl,H3,O3⟩
   have P3:=NM.keep (Cb N) P1 O3
   have B3:=B1.oth O3 H3.sb
   refine⟨_,rfl,fun p hp=>?_,fun _=>?_⟩
   ·obtain rfl:=List.mem_singleton.1 hp
    obtain⟨_,_,ei,_,gi3⟩:=P3.ints
    cases ei
    obtain⟨g3,_⟩:=gi3.cell g?
    simp only[Ex.ev,coerce,toInt_int,zf,zi,zg,zh,arith,Cst.val,List.getD_cons_zero,List.getD_cons_succ,wl,Int.toNat_natCast,Nat.mul_one]
    exact g3
   ·rw[wt]
    refine fin (tk bs 2 r1).1 _ _ h2 ?_ (by omega) H3 B3 P3 _ _ _
    unfold rp
    rw[if_pos rfl,eb]
  ·obtain rfl:x=17:=beq_iff_eq.1 h17
   have wt:IntKind.i64.wrap ((tk bs 3 r1).2+3)=(((tk bs 3 r1).2+3).toNat:Int):=by rw[i64_in _ (by omega)];omega
   refine(Dm hi G hx L ok1 H2 3 (by omega)).mono ?_
   rintro _ h2 ⟨rfl,H3,O3⟩
   refine⟨_,rfl,fun _ _=>?_⟩
   rw[wt]
   refine fin (tk bs 3 r1).1 _ _ h2 ?_ (by omega) H3 (B1.oth O3 H3.sb) (NM.keep (Cb N) P1 O3) _ _ _
   unfold rp
   rw[if_neg (by decide),if_pos rfl]
  ·obtain rfl:x=18:=beq_iff_eq.1 h18
   have wt:IntKind.i64.wrap ((tk bs 7 r1).2+11)=(((tk bs 7 r1).2+11).toNat:Int):=by rw[i64_in _ (by omega)];omega
   refine(Dm hi G hx L ok1 H2 7 (by omega)).mono ?_
   rintro _ h2 ⟨rfl,H3,O3⟩
   refine⟨_,rfl,fun _ _ _=>?_⟩
   rw[wt]
   refine fin (tk bs 7 r1).1 _ _ h2 ?_ (by omega) H3 (B1.oth O3 H3.sb) (NM.keep (Cb N) P1 O3) _ _ _
   unfold rp
   rw[if_neg (by decide),if_neg (by decide),if_pos rfl]
  ·refine fin r1 1 x h1 ?_ (by omega) H2 B1 P1 _ _ _
   unfold rp
   rw[if_neg (by simpa using h16),if_neg (by simpa using h17),if_neg (by simpa using h18)]
   rfl
end
end
section
variable {S : Shared} {h h0 : Eng.Heap}
section
variable {b1 b2 bm : Nat} {a : Option Addr} {c : Nat} {bs : List Int} {m : MC} {T T1 T2 : TypeId} {r : Rd}
theorem KO{xs:List Int}(hok:hok xs):∀c∈zF xs,c.1≤15:=fun c hc=>by
 obtain⟨j,hj⟩:=List.getElem?_of_mem hc
 have hj2:j<(y7 xs).length:=by rw[wG,←x7];exact(List.getElem?_eq_some_iff.1 hj).1
 obtain⟨l,b,_,h2,h3,_⟩:=k6 hok (List.getElem?_eq_getElem hj2)
 rw[hj]at h2
 have:=Option.some.inj h2
 rw[this];exact h3
theorem XB(hi:Eng.Inv S h0)(G:Errs h0)(hx:zj h0 .u8 a bs)(L:bs.length≤1048576)(H:LS h0 h b1 b2 bm a c bs m T T1 T2 r){xs:List Int}{bc:Nat}{Tc:TypeId}(hbc:h bc=some (.cells (ints .i64 xs) Tc))(hxl:xs.length=19){n3 n5:Nat}(h3:n3<32)(h5:n5<32)
  (K0 K1:Kt)(e0 e4 e6 e7 e8 e10:Value) :
  mlC.wp Tryz.prog S yg (wM h0 bm a c bs m T (Gr (n3+257) (lg bs (zF xs) (n3+257+(n5+1)) (bd (zu xs != 1) r) []).1 (lg bs (zF xs) (n3+257+(n5+1)) (bd (zu xs != 1) r) []).2)) [e0,.pointer (some ⟨b1,0,none⟩),.pointer (some ⟨b2,0,none⟩),.int .i64 n3,e4,.int .i64 n5,e6,e7,e8,.slice (some ⟨bc,0,none⟩) 19 19,e10] h [K0,K1]:=by
 have w3:IntKind.i64.wrap ((n3:Int)+257)=((n3+257:Nat):Int):=by rw[i64_in _ (by omega)];omega
 have w5:IntKind.i64.wrap ((n5:Int)+1)=((n5+1:Nat):Int):=by rw[i64_in _ (by omega)];omega
 have wt:IntKind.i64.wrap (((n3+257:Nat):Int)+((n5+1:Nat):Int))=((n3+257+(n5+1):Nat):Int):=by rw[i64_in _ (by omega)];omega
 simp only[mlC,Tr.wp,zG,Ex.ev,coerce,toInt_int,zb,zf,zi,zg,zh,zB,zI,arith,Cst.val,SV.den,zq,zL,zE,zo,zn,z9,zU,zp,zO,List.flatMap_cons,List.flatMap_nil,List.getD_cons_zero,List.getD_cons_succ,decide_eq_true_eq,decide_eq_false_iff_not,List.map_cons,List.map_nil,List.cons_append,List.nil_append,List.append_nil,Nat.add_zero,and_true,if_false,Bool.false_eq_true,zm,w3,w5,wt]
 obtain⟨tot,htot⟩:∃tot,tot=n3+257+(n5+1):=⟨_,rfl⟩
 rw[←htot]
 have gi:zj h .i64 (some ⟨bc,0,none⟩) xs:=Pk hbc
 refine⟨zA r.k,za,jj H.c2,fun hz=>?_,fun hz=>?_⟩
 ·rw[za,zt]at hz
  have hk:r.k≠0:=by simpa using hz
  have e1:bd (zu xs != 1) r=r:=by unfold bd;rw[if_neg (fun h=>hk h.1)]
  have e2:Gr (n3+257) (lg bs (zF xs) tot (bd (zu xs != 1) r) []).1 (lg bs (zF xs) tot (bd (zu xs != 1) r) []).2=(r,[],[]):=by
   rw[e1,k8 (fun h=>hk h.1)];exact if_neg hk
  rw[e2]
  refine⟨zA r.k,za,jj H.c2,CK H.c2 (fun hs=>hi b2 hs H.n2),zA r.k,za,?_,?_⟩
  ·rw[za,jz H.c2];exact jj upd_same
  ·rw[za,jz H.c2]
   have H':=H.err (r':=r) (fun h=>⟨h,rfl⟩)
   exact H'.bad hk rfl
 ·rw[za,zt]at hz
  have hk:r.k=0:=by simpa using hz
  have kh:=qB (S:=S) (hi.sub H.sb) (some ⟨bc,0,none⟩) 19 xs gi
  rw[hxl]at kh
  refine kh.mono ?_
  rintro _ hq ⟨rfl,rfl⟩
  refine⟨_,rfl,fun hne=>?_,fun heq=>?_⟩
  ·have hne:(zu xs != 1)=true:=hne
   have e1:bd (zu xs != 1) r=⟨r.i,3⟩:=by unfold bd;rw[if_pos ⟨hk,hne⟩]
   have e2:Gr (n3+257) (lg bs (zF xs) tot (bd (zu xs != 1) r) []).1 (lg bs (zF xs) tot (bd (zu xs != 1) r) []).2=(⟨r.i,3⟩,[],[]):=by
    rw[e1,k8 (fun h=>by cases h.1)];exact if_neg (by simp)
   rw[e2]
   exact H.fail hi G rfl
  ·have hk1:zu xs=1:=by simpa using heq
   have e1:bd (zu xs != 1) r=r:=by unfold bd;rw[if_neg (fun h=>by rw[hk1]at h;cases h.2)]
   rw[e1]
   obtain⟨_,hok⟩:=j6 (xs:=xs) (by rw[hk1];decide)
   have O:tI.O hq (.slice (some ⟨bc,0,none⟩) 19 19) xs:=Pj hbc hxl
   have kt:=Bz (S:=S) (hi.sub H.sb) (some ⟨bc,0,none⟩) 19 xs (by rw[hxl];exact O) (by show List.length _≤_;omega) (by rw[hk1];decide)
   rw[hxl]at kt
   refine kt.mono ?_
   rintro _ h6 ⟨bt,TT,PP,a2,c2,rfl,TV,hTl⟩
   have hcl:(zF xs).length=19:=by rw[x7,hxl]
   rw[←hcl]at TV
   have H6:=H.sub TV.sb
   obtain⟨p',hp,hm,_⟩:=H.mt
   have B6:Tb h0 h6 b1 b2 bm bt TT PP a2 c2 (zF xs):=⟨⟨TV.hb,TV.ow,fun y hy=>zN H.sb (TV.nw y hy),zN H.sb TV.nb,TV.ne,TV.ti,H.sb.trans TV.sb⟩,
    ⟨fun e=>(by have:=TV.nb;rw[e,H.c1]at this;cases this),fun e=>(by have:=TV.nb;rw[e,H.c2]at this;cases this),fun e=>(by have:=TV.nb;rw[e,hm]at this;cases this)⟩,
    fun z hz=>⟨fun e=>(by have:=TV.nw z hz;rw[e,H.c1]at this;cases this),fun e=>(by have:=TV.nw z hz;rw[e,H.c2]at this;cases this),fun e=>(by have:=TV.nw z hz;rw[e,hm]at this;cases this)⟩⟩
   refine⟨_,rfl,?_⟩
   intro b hb
   have sb:Eng.Sub h6 (upd h6 b (.cells (ints .i64 []) 2)):=Sub.zC hb
   refine⟨fun us h'=>∃(r':Rd) (all':List Int) (a':Option Addr) (c':Nat),us=[.slice a' all'.length c']∧r'.k=0∧LS h0 h' b1 b2 bm a c bs m T T1 T2 r'∧Tb h0 h' b1 b2 bm bt TT PP a2 c2 (zF xs)∧Part .i64 h' (.slice a' all'.length c') all'∧Eng.New (mkT h0 b1 b2 bm bt a2 TT.length c2) (.slice a' all'.length c')∧all'.length≤tot∧lg bs (zF xs) tot r []=lg bs (zF xs) tot r' all',
    fun us _=>tot-slL (us.getD 0 undef),⟨r,[],_,_,rfl,hk,H6.sub sb,B6.sub sb,(Own.made (k:=.i64) (h:=h6) (b:=b) (T:=2) []).part,B6.new H6 hb,by simp,rfl⟩,?_⟩
   rintro a1 l1 c1 h' ⟨r',all',a',c',hx1,hk',H',B',P',N',hl',hlg⟩
   simp only[List.cons.injEq,Value.slice.injEq,and_true]at hx1
   obtain⟨rfl,rfl,rfl⟩:=hx1
   rw[hlg]
   refine⟨fun hlt=>?_,fun hge=>?_⟩
   ·have hlt:all'.length<n3+257+(n5+1):=by omega
    have len:=E4 (bs:=bs) (cs:=zF xs) (tot:=tot) (r:=r') (all:=all')
    have st:=GZ (bs:=bs) (cs:=zF xs) (tot:=tot) (r:=r') (all:=all') ⟨hk',by omega⟩
    rw[st]
    refine XA hi G hx L H' hk' B' (KO hok) hTl (by omega) P' N' h3 h5 hlt (fun hk2=>?_) K0 K1 _ _ _ _ (fun hk2 a' c' h'' H2 B2 P2 N2=>?_) _ _ _ _ _ _ _ _ _ _
    ·rw[←htot]at hk2 ⊢
     rw[k8 (fun h=>hk2 h.1)]
     have e3:Gr (n3+257) (lg1 bs (zF xs) tot r' all').1 (lg1 bs (zF xs) tot r' all').2=((lg1 bs (zF xs) tot r' all').1,[],[]):=if_neg hk2
     rw[e3]
    ·rw[←htot]at hk2 H2 P2 N2 ⊢
     exact⟨⟨_,_,a',c',rfl,hk2,H2,B2,P2,N2,(len.2.2 hk2).2,rfl⟩,by simp only[List.getD_cons_zero,zf];have:=len.2.2 hk2;omega⟩
   ·have hnl:¬(r'.k=0∧all'.length<tot):=fun h=>hge (by omega)
    rw[k8 hnl]
    have e6:((n3:Int)+257).toNat=n3+257:=by omega
    have K:=X8 hi G H' hk' P' (Cb N') (x3:=(n3:Int)) ⟨by omega,by omega⟩ (by omega) K0 K1
    rw[e6]at K
    exact K _ _ _ _ _ _ _ _ _ _ _ _ _ _ _ _ _
theorem Ws{r0:Rd}{n3 n5:Nat}(e3:(tk bs 5 r0).2=(n3:Int))(e5:(tk bs 5 (jK bs r0)).2=(n5:Int)) :
  Gr (n3+257) (lg bs (zF (kg bs r0).2) (n3+257+(n5+1)) (bd (zu (kg bs r0).2 != 1) (kg bs r0).1) []).1 (lg bs (zF (kg bs r0).2) (n3+257+(n5+1)) (bd (zu (kg bs r0).2 != 1) (kg bs r0).1) []).2=yy bs r0:=by
 have h1:CI bs r0=n3+257:=by unfold CI;rw[e3];omega
 have h2:Ha bs r0=n5+1:=by unfold Ha;rw[e5];omega
 have:yy bs r0=Gr (CI bs r0) (qY bs r0).1 (qY bs r0).2:=rfl
 rw[this];unfold qY Jt;rw[h1,h2]
theorem XC(hi:Eng.Inv S h0)(G:Errs h0)(hx:zj h0 .u8 a bs)(L:bs.length≤1048576){r0:Rd}(ok:okR bs r0)(H:LS h0 h b1 b2 bm a c bs m T T1 T2 (A0 bs r0)){n3 n5:Nat}(e3:(tk bs 5 r0).2=(n3:Int))(e5:(tk bs 5 (jK bs r0)).2=(n5:Int))
  (e0 e4 e6:Value) :
  ml3.wp Tryz.prog S yg (wM h0 bm a c bs m T (yy bs r0)) [e0,.pointer (some ⟨b1,0,none⟩),.pointer (some ⟨b2,0,none⟩),.int .i64 n3,e4,.int .i64 n5,e6] h []:=by
 obtain⟨ok0,ok1,ok2,ok3,ok4⟩:=Kc ok
 have n1:=yD (bs:=bs) (n:=5) (r:=r0)
 have n2:=yD (bs:=bs) (n:=5) (r:=jK bs r0)
 have nn:=yD (bs:=bs) (n:=4) (r:=A0 bs r0)
 have q5:(2:Int)^5=32:=by decide
 have q4:(2:Int)^4=16:=by decide
 have w3:IntKind.i64.wrap ((tk bs 4 (A0 bs r0)).2+4)=(((tk bs 4 (A0 bs r0)).2.toNat+4:Nat):Int):=by rw[i64_in _ (by omega)];omega
 simp only[ml3,Tr.wp,FI,zG,Ex.ev,coerce,toInt_int,zb,zf,zg,zh,yi,zI,arith,Cst.val,SV.den,zq,zL,zE,zo,zn,yo,z9,zU,zp,List.flatMap_cons,List.flatMap_nil,List.getD_cons_zero,List.getD_cons_succ,List.getElem?_cons_zero,decide_eq_true_eq,decide_eq_false_iff_not,List.map_cons,List.map_nil,List.cons_append,List.nil_append,List.append_nil,Nat.zero_add,Nat.add_zero,and_true,if_false,Bool.false_eq_true,zm]
 refine(Dm hi G hx L ok1 H 4 (by omega)).mono ?_
 rintro _ h1 ⟨rfl,H1,O1⟩
 refine⟨_,rfl,?_⟩
 rw[w3]
 intro b8 hb8
 have w19:IntKind.i64.wrap 19=19:=i64_in _ (by omega)
 have t19:(19:Int).toNat=19:=rfl
 have hs8:¬S b8:=fun hs=>hi b8 hs (zN H1.sb hb8)
 refine D3 hs8 _ 0 _ _ upd_same (by simp) ?_
 rw[yY,w19,t19]
 obtain⟨T8,hT8⟩:∃T8:TypeId,T8=181:=⟨_,rfl⟩
 obtain⟨h2,hh2⟩:∃h2,h2=upd h1 b8 (.cells (ints .i64 (ord.map Int.ofNat)) 181):=⟨_,rfl⟩
 have eo:upd h1 b8 (.cells (kx (List.replicate 19 (Value.int .i64 0)) (0+0) [Value.int .i64 16,Value.int .i64 17,Value.int .i64 18,Value.int .i64 0,Value.int .i64 8,Value.int .i64 7,Value.int .i64 9,Value.int .i64 6,Value.int .i64 10,Value.int .i64 5,Value.int .i64 11,Value.int .i64 4,Value.int .i64 12,Value.int .i64 3,Value.int .i64 13,Value.int .i64 2,Value.int .i64 14,Value.int .i64 1,Value.int .i64 15]).toArray 181)=h2:=by rw[hh2];rfl
 rw[eo]
 have s2:Eng.Sub h1 h2:=by rw[hh2];exact Sub.zC hb8
 have h28:h2 b8=some (.cells (ints .i64 (ord.map Int.ofNat)) 181):=by rw[hh2,upd_same]
 have H2:=H1.sub s2
 clear eo hh2 hT8
 refine⟨by omega,by omega,by decide,fun b hb=>?_⟩
 rw[Nat.mul_one,qI]
 have sb:Eng.Sub h2 (upd h2 b (.cells (ints .i64 (List.replicate 19 0)) 2)):=Sub.zC hb
 have hne8:b8≠b:=fun e=>by rw[←e,h28]at hb;cases hb
 have N:Eng.New (mk2 h0 b1 b2 bm) (.slice (some ⟨b,0,none⟩) 19 19):=H2.new hb
 obtain⟨nb1,nb2,nb3,nb4⟩:=kZ (N b rfl)
 have N8:=H1.free hb8
 obtain⟨n81,n82,n83,_⟩:=kZ N8
 have hsb:¬S b:=fun hs=>hi b hs nb4
 generalize hr2:(tk bs 4 (A0 bs r0)).1=r2 at H1 H2
 generalize hn:(tk bs 4 (A0 bs r0)).2.toNat+4=n
 have hn19:n≤19:=by omega
 have okr2:okR bs r2:=hr2▸yU ok1
 refine⟨fun us h'=>∃(j:Nat),us=[.int .i64 j]∧j≤n∧h' b=some (.cells (ints .i64 (sm bs r2 j).2) 2)∧h' b8=some (.cells (ints .i64 (ord.map Int.ofNat)) 181)∧LS h0 h' b1 b2 bm a c bs m T T1 T2 (sm bs r2 j).1,fun us _=>n-(toInt (us.getD 0 undef)).toNat,⟨0,rfl,by omega,upd_same,(upd_ne hne8).trans h28,H2.sub sb⟩,?_⟩
 rintro y h' ⟨j,hx1,hj,hbj,h8j,HJ⟩
 simp only[List.cons.injEq,Value.int.injEq,true_and,and_true]at hx1
 subst hx1
 have okj:okR bs (sm bs r2 j).1:=Po okr2
 refine⟨fun hlt=>?_,fun hge=>?_⟩
 ·have hjn:j<n:=by omega
  have hol:=Wq j (by omega)
  have hc8:∀ {g:Eng.Heap},g b8=some (.cells (ints .i64 (ord.map Int.ofNat)) 181)→Eng.zd g ⟨b8,(j:Int).toNat*1,none⟩=some (.int .i64 ((ord.getD j 0:Nat):Int)):=fun hg=>by
   simp only[Eng.zd,hg,Int.toNat_natCast,Nat.mul_one]
   simp[Eng.ints,-List.map_map,Ve (show j<19 by omega)]
  refine⟨by omega,by omega,_,hc8 h8j,?_⟩
  refine(Dm hi G hx L okj HJ 3 (by omega)).mono ?_
  rintro _ h3 ⟨rfl,H3,O3⟩
  have h83:=(O3 b8 n81 n82).trans h8j
  have hb3:=(O3 b nb1 nb2).trans hbj
  refine⟨_,rfl,fun p hp=>?_,rfl,by omega,by omega,?_⟩
  ·obtain rfl:=List.mem_singleton.1 hp
   simp only[Ex.ev,coerce,toInt_int,zh,List.getD_cons_zero,List.getD_cons_succ,ye]
   exact hc8 h83
  ·rw[Int.toNat_natCast]
   refine SM (i:=ord.getD j 0) hb3 hsb (by rw[Mo];exact hol) ?_
   rw[show IntKind.i64.wrap ((j:Int)+1)=((j+1:Nat):Int) by rw[i64_in _ (by omega)];omega]
   refine⟨⟨j+1,rfl,by omega,upd_same,(upd_ne hne8).trans h83,?_⟩,by simp only[List.getD_cons_zero,toInt_int,Int.toNat_natCast];omega⟩
   refine H3.kept N (fun y hy hn=>upd_ne fun e=>hn (by rw[e];rfl)) fun y o hy=>?_
   rw[upd_ne (fun e=>by rw[e,nb4]at hy;cases hy)]
   exact H3.sb y o hy
 ·obtain rfl:j=n:=by omega
  have e2:sm bs r2 j=kg bs r0:=by unfold kg;rw[hr2,hn]
  rw[e2]at hbj HJ
  have hsl:(kg bs r0).2.length=19:=by unfold kg;exact Mo
  rw[←Ws e3 e5]
  exact XB hi G hx L HJ hbj hsl (by omega) (by omega) _ _ _ _ _ _ _ _
theorem LS.Pp(hi:Eng.Inv S h0)(G:Errs h0)(H:LS h0 h b1 b2 bm a c bs m T T1 T2 r){w:Bool}{K:Eng.Heap→Prop}
  (hK:∀h',LS h0 h' b1 b2 bm a c bs m T T1 T2 (bd w r)→K h') :
  ((xj (jN (zA r.k))&&w)=true→∃x,zd h ⟨1,0,none⟩=some (Value.int .i64 x)∧yC S h ⟨b2,0,none⟩∧K (zy h ⟨b2,0,none⟩ (.iface tCl (.agg (xF (.tuple (#[.int .i64 x]++xF (.tuple #[])))))))) ∧
  ((xj (jN (zA r.k))&&w)=false→K h):=by
 rw[za,zt]
 refine⟨fun hy=>?_,fun hn=>?_⟩
 ·simp only[Bool.and_eq_true,decide_eq_true_eq]at hy
  have e:bd w r=⟨r.i,3⟩:=by unfold bd;rw[if_pos hy]
  have e3:(.iface tCl (.agg (xF (.tuple (#[.int .i64 3]++xF (.tuple #[]))))):Value)=zA (3:Int):=rfl
  refine⟨3,(G.sub H.sb).e3,CK H.c2 (fun hs=>hi b2 hs H.n2),?_⟩
  rw[e3,jz H.c2]
  rw[e]at hK
  exact hK _ (H.err (r':=⟨r.i,3⟩) (fun h=>by cases h))
 ·have e:bd w r=r:=by
   unfold bd;rw[if_neg (fun h=>by rw[decide_eq_true h.1,h.2]at hn;cases hn)]
  rw[e]at hK
  exact hK _ H
theorem Us(hi:Eng.Inv S h0)(G:Errs h0)(hx:zj h0 .u8 a bs)(L:bs.length≤1048576){r0:Rd}(ok:okR bs r0)(H:LS h0 h b1 b2 bm a c bs m T T1 T2 (tk bs 5 (jK bs r0)).1){n3 n5:Nat}(e3:(tk bs 5 r0).2=(n3:Int))(e5:(tk bs 5 (jK bs r0)).2=(n5:Int))
  (e0 e4:Value) :
  ml2.wp Tryz.prog S yg (wM h0 bm a c bs m T (yy bs r0)) [e0,.pointer (some ⟨b1,0,none⟩),.pointer (some ⟨b2,0,none⟩),.int .i64 n3,e4,.int .i64 n5,zA (tk bs 5 (jK bs r0)).1.k] h []:=by
 have n2:=yD (bs:=bs) (n:=5) (r:=jK bs r0)
 have q5:(2:Int)^5=32:=by decide
 have w5:IntKind.i64.wrap ((n5:Int)+1)=(n5:Int)+1:=i64_in _ (by omega)
 simp only[ml2,Tr.wp,Ex.ev,coerce,toInt_int,zb,zh,wz,zI,arith,Cst.val,z9,zp,zO,List.getD_cons_zero,List.getD_cons_succ,List.getElem?_cons_zero,List.map_cons,List.map_nil,List.cons_append,List.nil_append,Nat.add_zero,and_true,zm,w5]
 have:=LS.Pp hi G H (w:=decide ((n5:Int)+1>30)) (K:=fun h'=>ml3.wp Tryz.prog S yg (wM h0 bm a c bs m T (yy bs r0)) [e0,.pointer (some ⟨b1,0,none⟩),.pointer (some ⟨b2,0,none⟩),.int .i64 n3,e4,.int .i64 n5,zA (tk bs 5 (jK bs r0)).1.k] h' [])
  (fun h' H'=>by
   rw[←e5]at H'
   exact XC hi G hx L ok H' e3 e5 _ _ _)
 rw[Bool.decide_eq_true]
 refine⟨fun hy=>?_,fun hn _=>this.2 hn⟩
 obtain⟨x,q1,q2,q3⟩:=this.1 hy
 exact⟨x,q1,q2,fun _=>q3⟩
theorem XD(hi:Eng.Inv S h0)(G:Errs h0)(hx:zj h0 .u8 a bs)(L:bs.length≤1048576){r0:Rd}(ok:okR bs r0)(H:LS h0 h b1 b2 bm a c bs m T T1 T2 (tk bs 5 r0).1){n3:Nat}(e3:(tk bs 5 r0).2=(n3:Int))(e0:Value) :
  ml1.wp Tryz.prog S yg (wM h0 bm a c bs m T (yy bs r0)) [e0,.pointer (some ⟨b1,0,none⟩),.pointer (some ⟨b2,0,none⟩),.int .i64 n3,zA (tk bs 5 r0).1.k] h []:=by
 obtain⟨ok0,ok1,ok2,ok3,ok4⟩:=Kc ok
 have n1:=yD (bs:=bs) (n:=5) (r:=r0)
 have n2:=yD (bs:=bs) (n:=5) (r:=jK bs r0)
 have q5:(2:Int)^5=32:=by decide
 have w3:IntKind.i64.wrap ((n3:Int)+257)=(n3:Int)+257:=i64_in _ (by omega)
 obtain⟨n5,e5⟩:=Int.eq_ofNat_of_zero_le n2.1
 simp only[ml1,Tr.wp,zG,Ex.ev,coerce,toInt_int,zb,zh,wz,zI,arith,Cst.val,SV.den,zq,zL,zE,zo,zn,z9,zp,zO,List.flatMap_cons,List.flatMap_nil,List.getD_cons_zero,List.getD_cons_succ,List.getElem?_cons_zero,List.map_cons,List.map_nil,List.cons_append,List.nil_append,List.append_nil,Nat.add_zero,and_true,if_false,Bool.false_eq_true,zm,w3]
 obtain⟨t1,t2⟩:=LS.Pp hi G H (w:=decide ((n3:Int)+257>286)) (K:=fun h'=>LS h0 h' b1 b2 bm a c bs m T T1 T2 (bd (decide ((n3:Int)+257>286)) (tk bs 5 r0).1)) (fun _ h=>h)
 have el:bd (decide ((n3:Int)+257>286)) (tk bs 5 r0).1=jK bs r0:=by rw[←e3];rfl
 rw[el]at t1 t2
 rw[Bool.decide_eq_true]
 refine⟨fun hy=>?_,fun hn _=>?_⟩
 ·obtain⟨x,q1,q2,q3⟩:=t1 hy
  refine⟨x,q1,q2,fun _=>?_⟩
  refine(Dm hi G hx L ok0 q3 5 (by omega)).mono ?_
  rintro _ h1 ⟨rfl,H1,O1⟩
  refine⟨_,rfl,zA _,za,jj H1.c2,?_⟩
  rw[e5]
  exact Us hi G hx L ok H1 e3 e5 _ _
 ·have q3:=t2 hn
  refine(Dm hi G hx L ok0 q3 5 (by omega)).mono ?_
  rintro _ h1 ⟨rfl,H1,O1⟩
  refine⟨_,rfl,zA _,za,jj H1.c2,?_⟩
  rw[e5]
  exact Us hi G hx L ok H1 e3 e5 _ _
theorem Vg(hi:Eng.Inv S h0)(G:Errs h0)(hx:zj h0 .u8 a bs)(L:bs.length≤1048576)(p:Nat)(hp:p≤8*bs.length)(M:MAt h0 h bm a c bs p m T) :
  zc Tryz.prog S kU #[.pointer (some ⟨bm,0,none⟩)] h (wM h0 bm a c bs m T (yy bs ⟨p,0⟩)):=by
 refine DD (vs:=[.pointer (some ⟨bm,0,none⟩)]) ⟨rfl,trivial⟩ (hi.sub M.sb) ?_
 simp only[Ao,Tr.wp,zG,Ex.ev,coerce,toInt_int,zh,zB,Cst.val,SV.den,zq,zL,zE,zo,zn,yo,z9,zp,List.flatMap_cons,List.flatMap_nil,List.replicate_one,List.getD_cons_zero,List.getD_cons_succ,List.map_cons,List.map_nil,List.cons_append,List.nil_append,List.append_nil,Nat.add_zero,and_true,if_false,Bool.false_eq_true,zm]
 intro b1 hb1 b2 hb2
 have ok:okR bs ⟨(p:Int),0⟩:=fun _=>⟨by simp only;omega,by simp only;omega⟩
 have d12:b1≠b2:=fun e=>by rw[←e,upd_same]at hb2;cases hb2
 have d1m:b1≠bm:=fun e=>by rw[e,M.hb]at hb1;cases hb1
 have hb2':h b2=none:=by rw[upd_ne (Ne.symm d12)]at hb2;exact hb2
 have d2m:b2≠bm:=fun e=>by rw[e,M.hb]at hb2';cases hb2'
 have H:LS h0 (upd (upd h b1 (.cells #[.pointer (some ⟨bm,0,none⟩)] 118)) b2 (.cells #[.nilIface] 55)) b1 b2 bm a c bs m T 118 55 ⟨(p:Int),0⟩:=
  ⟨(upd_ne d12).trans upd_same,upd_same,⟨p,hp,(upd_ne (Ne.symm d2m)).trans ((upd_ne (Ne.symm d1m)).trans M.hb),fun _=>rfl⟩,zN M.sb hb1,zN M.sb hb2',M.nb,d12,d1m,d2m,M.sb.trans ((Sub.zC hb1).trans (Sub.zC hb2))⟩
 have n1:=yD (bs:=bs) (n:=5) (r:=⟨(p:Int),0⟩)
 obtain⟨n3,e3⟩:=Int.eq_ofNat_of_zero_le n1.1
 refine(Dm hi G hx L ok H 5 (by omega)).mono ?_
 rintro _ h1 ⟨rfl,H1,O1⟩
 refine⟨_,rfl,zA _,za,jj H1.c2,?_⟩
 rw[e3]
 exact XD hi G hx L ok H1 e3 _
end
end
end Go.Proofs.YtnhbgoiihgoneaaGreatDoor
end
section
namespace Go.Proofs.YtnhbgoiihgoneaaGreatDoor
open Go Go.Eng Go.ChangeShapes Go.WideShapes Go.ChangeAt Go.RowKit
theorem Yk:Tryz.prog.globalNamed "errors.errorType" = some 3:=by kernel_rfl
theorem Yn:(Tryz.prog.cutTypes.find? (·.1 == "internal/reflectlite.rtype")).map (·.2)=some tRt:=by kernel_rfl
theorem Tj:((List.range Tryz.prog.types.size).filter fun t=>Tryz.prog.rowNamed t [101,114,114,111,114])=[tEr]:=by kernel_rfl
theorem Yo:Tryz.prog.globalNamed "loop.example/s02972/impl.errShort" = some 2:=by kernel_rfl
theorem Yp:Tryz.prog.globalNamed "loop.example/s02972/impl.errBad" = some 1:=by kernel_rfl
theorem Yq:Tryz.prog.globalNamed "loop.example/s02972/impl.errLarge" = some 4:=by kernel_rfl
theorem XE:(Tryz.prog.globals[(2:Nat)]?).map (·.type)=some tCl:=by kernel_rfl
theorem XF:(Tryz.prog.globals[(1:Nat)]?).map (·.type)=some tCl:=by kernel_rfl
theorem XG:(Tryz.prog.globals[(4:Nat)]?).map (·.type)=some tCl:=by kernel_rfl
theorem NI{W:World}{hs:List (String×DataW Unit)}(h:handlesMet Tryz.prog (("errors.errorType",Rows.laid_errors_errorType)::hs) W):CJ (jY W):=by
 obtain⟨name,u,ty,e1,e2,e3,e4,e5⟩:=h _ List.mem_cons_self
 have en:name=[101,114,114,111,114]:=(Option.some.inj e1).symm
 subst en
 obtain rfl:=Option.some.inj (Yn.symm.trans e2)
 have hm:ty∈(List.range Tryz.prog.types.size).filter fun t=>Tryz.prog.rowNamed t [101,114,114,111,114]:=List.mem_filter.2 ⟨List.mem_range.2 e3,e4⟩
 rw[Tj]at hm
 obtain rfl:=List.mem_singleton.1 hm
 have hh:typeHandle Tryz.prog tEr=hdl tEr:=by kernel_rfl
 rw[hh]at e5
 have:=World.var?_cell Yk e5 0
 exact this
theorem Yr:Tryz.prog.cellsOf tCl=1:=by kernel_rfl
theorem XH:Tryz.prog.cellsOf 2=1:=by kernel_rfl
theorem Dn{W:World}{n:String}{g:Nat}{k:Int}(hg:Tryz.prog.globalNamed n=some g)(ht:(Tryz.prog.globals[g]?).map (·.type)=some tCl){l:List (String×DataW Unit)}{ps:List MemPlace}
  (h:DataW.LaidVars Tryz.prog W ((n,.agg [.lit (.int .i64 k)])::l) ps):zd (jY W) ⟨g,0,none⟩=some (.int .i64 k)∧∃q,DataW.LaidVars Tryz.prog W l q:=by
 obtain⟨g',t,cs,fuel,p,q,h1,h2,h3,h4,h5,_⟩:=h
 obtain rfl:=Option.some.inj (hg.symm.trans h1)
 obtain rfl:=Option.some.inj (ht.symm.trans h2)
 obtain⟨y0,m,hx,hl,hy⟩:=trod_struct1 Tryz.underlying89 h4
 rw[Yr]at hl
 obtain⟨cs⟩:=cs
 match cs,hl with
 | [c0],_=>
  have hy':DataW.trod (fun _=>()) Tryz.prog W 0 (fun _=>true) false m 2 [c0]=some y0:=by
   simpa[XH]using hy
  obtain⟨z,e1,e2,_⟩:=DataW.trod_int Tryz.underlying2 hy'
  have e1:c0=.int .i64 z:=by simpa using e1
  subst e1
  subst e2
  simp only[Prod.mk.injEq,DataW.agg.injEq,List.cons.injEq,DataW.lit.injEq,Lit.int.injEq,true_and,and_true]at hx
  refine⟨?_,q,h5⟩
  have:=World.var?_cell hg h3 0
  rw[hx.1]
  exact this
noncomputable def QX(os:Os):World:=
 let w0:=World.holding Tryz.prog os ⟨#[],#[],[]⟩
 let put (g:Nat) (v:Value) (hp:Array Obj):Array Obj:=hp.modify g fun
   | .cells _ t frozen=>.cells #[v] t frozen
   | o=>o
 { w0 with heap:=put 3 (rty tEr) (put 2 (.int .i64 2) (put 1 (.int .i64 3) (put 4 (.int .i64 6) w0.heap))) }
theorem Gs{H:Type}{enc:TypeId×Value→H}{P:Program}{w:World}{spare:Nat→Bool}:∀ {ns:List String} {gs:List (DataW H)} {ps:List MemPlace},DataW.TrodVars enc P w spare ns gs ps→gs.length=ns.length
 | [],[],_,_=>rfl
 | [],_::_,_,h=>h.elim
 | _::_,[],_,h=>h.elim
 | n::ns,d::ds,ps,h=>by
  obtain⟨g,t,cs,fuel,p,q,h1,h2,h3,h4,hs,e⟩:=h
  rw[List.length_cons,List.length_cons,Gs hs]
end Go.Proofs.YtnhbgoiihgoneaaGreatDoor
end
section
namespace Go.Proofs.YtnhbgoiihgoneaaGreatDoor
open Go Go.Eng Go.IntWalk
variable {S : Shared} {h : Eng.Heap} {v w : Value} {xs : List Int}
abbrev tB:Ty Value (List Int):=Wc .u8
def DT(xs:List Int):Prop:=xs.length≤1048576
theorem CM{h:Eng.Heap}{v:Value}{xs:List Int}(H:tB.R h v xs):∃a c,v=.slice a xs.length c:=by obtain⟨a,c,rfl,_⟩:=H;exact⟨a,c,rfl⟩
end Go.Proofs.YtnhbgoiihgoneaaGreatDoor
end
section
namespace Go.Proofs.YtnhbgoiihgoneaaGreatDoor
open Go Go.Eng Go.IntWalk
variable {S : Shared} {h h0 : Eng.Heap}
def bitsOf(x:Int)(n:Nat):List Int:=(List.range n).map fun i=>x/2^i%2
theorem xb{x:Int}{n:Nat}:(bitsOf x n).length=n:=by simp[bitsOf]
theorem HM{x:Int}{n:Nat}:bitsOf x (n+1)=bitsOf x n++[x/2^n%2]:=by simp[bitsOf,List.range_succ]
theorem Gt{x:Int}{n:Nat}:∀b∈bitsOf x n,0≤b∧b≤1:=fun b hb=>by
 simp only[bitsOf,List.mem_map]at hb
 obtain⟨i,_,rfl⟩:=hb
 omega
def qa(out:List Int)(n:Nat)(b:Int):List Int:=
 (if n%8=0 then out++[0]else out).set (n/8) ((if n%8=0 then out++[0]else out).getD (n/8) 0+b*2^(n%8))
def pk(bs:List Int):Nat→List Int
 | 0=>[]
 | k+1=>qa (pk bs k) k (bs.getD k 0)
theorem QY{out:List Int}{n:Nat}{b:Int}(h:out.length=(n+7)/8):(qa out n b).length=(n+1+7)/8:=by
 unfold qa
 rw[List.length_set]
 split
 ·rw[List.length_append,h,List.length_singleton];omega
 ·omega
theorem qR{bs:List Int}:∀ {k:Nat},(pk bs k).length=(k+7)/8
 | 0=>rfl
 | k+1=>QY qR
theorem QZ{bs cs:List Int}:∀ {k:Nat},k≤bs.length→pk (bs++cs) k=pk bs k
 | 0,_=>rfl
 | k+1,h=>by
  rw[pk,pk,QZ (by omega)]
  congr 1
  rw[List.getD_eq_getElem?_getD,List.getD_eq_getElem?_getD,List.getElem?_append_left (by omega)]
def xh(out:List Int)(n:Nat):Int:=(if n%8=0 then out++[0]else out).getD (n/8) 0
theorem Ra{out:List Int}{n:Nat}(h:out.length=(n+7)/8)(h0:n%8=0):xh out n=0:=by
 unfold xh
 rw[if_pos h0,List.getD_eq_getElem?_getD,List.getElem?_append_right (by omega),show n/8-out.length=0 by omega]
 rfl
theorem CN{bs:List Int}(hb:∀b∈bs,0≤b∧b≤1):∀ {k:Nat},0≤xh (pk bs k) k∧xh (pk bs k) k<2^(k%8)
 | 0=>by simp[xh,pk]
 | k+1=>by
  by_cases h0:(k+1)%8=0
  ·rw[Ra qR h0,h0];decide
  ·have ih:=CN hb (k:=k)
   have e8:(k+1)/8=k/8:=by omega
   have em:(k+1)%8=k%8+1:=by omega
   have hbit:0≤bs.getD k 0∧bs.getD k 0≤1:=by
    rw[List.getD_eq_getElem?_getD]
    cases hg:bs[k]? with
    | none=>simp
    | some x=>exact hb x (List.mem_of_getElem? hg)
   have hlen:k/8<(if k%8=0 then pk bs k++[0]else pk bs k).length:=by
    have:=qR (bs:=bs) (k:=k)
    split
    ·rw[List.length_append,this,List.length_singleton];omega
    ·omega
   have hp:xh (pk bs (k+1)) (k+1)=xh (pk bs k) k+bs.getD k 0*2^(k%8):=by
    unfold xh
    rw[if_neg h0,e8,pk]
    unfold qa
    rw[List.getD_eq_getElem?_getD,List.getElem?_set_self hlen]
    rfl
   rw[hp,em,show(2:Int)^(k%8+1)=2*2^(k%8) by rw[Int.pow_succ];omega]
   have hpp:(0:Int)<2^(k%8):=Int.pow_pos (by decide)
   rcases(show bs.getD k 0=0∨bs.getD k 0=1 by omega)with h | h <;> rw[h] <;> omega
theorem Wt{n:Nat}:(2:Int)^(n%8)≤128:=by
 have:n%8≤7:=by omega
 have h:=GW this
 have e:(2:Int)^7=128:=by decide
 omega
theorem XI{v:Int}{i:Nat}(b:Int)(h0:0≤v)(h1:v<2^i)(hb:0≤b∧b≤1)(hi:i<8):Go.bits .or .u8 v (b*2^i)=v+b*2^i:=by
 obtain⟨n,rfl⟩:=Int.eq_ofNat_of_zero_le h0
 obtain⟨m,rfl⟩:=Int.eq_ofNat_of_zero_le hb.1
 rw[yP]at h1 ⊢
 have hn:n<2^i:=by exact_mod_cast h1
 have hm:m≤1:=by omega
 have hp:2^i≤2^7:=Nat.pow_le_pow_right (by decide) (by omega)
 have e7:2^7=128:=by decide
 have hle:m*2^i≤2^i:=by have:=Nat.mul_le_mul_right (2^i) hm;omega
 have e:((m:Int)*((2^i:Nat):Int))=((m*2^i:Nat):Int):=by push_cast;rfl
 have h1':(BitVec.ofInt 8 (n:Int)).toNat=n:=by rw[BitVec.ofInt_natCast,BitVec.toNat_ofNat];exact Nat.mod_eq_of_lt (by omega)
 have h2':(BitVec.ofInt 8 ((m*2^i:Nat):Int)).toNat=m*2^i:=by rw[BitVec.ofInt_natCast,BitVec.toNat_ofNat];exact Nat.mod_eq_of_lt (by omega)
 have e2:=Nat.two_pow_add_eq_or_of_lt hn m
 rw[e]
 show IntKind.u8.wrap ((BitVec.ofInt 8 (n:Int) ||| BitVec.ofInt 8 ((m*2^i:Nat):Int)).toNat:Int)=_
 rw[BitVec.toNat_or,h1',h2',Nat.or_comm,Nat.mul_comm m,←e2,u8_in _ (by rw[Nat.mul_comm];omega)]
 push_cast
 omega
def yk:List Int:=(List.range 288).map fun s=>if s<144 then 8 else if s<256 then 9 else if s<280 then 7 else 8
theorem j7:yk.length=288:=by simp[yk]
theorem Mq{s:Nat}(h:s<288):yk[s]? = some (if s<144 then 8 else if s<256 then 9 else if s<280 then 7 else 8):=by simp[yk,h]
theorem Rb:zu yk=1:=by decide +kernel
theorem wZ:¬(zu yk=0∨zu yk=2):=by rw[Rb];decide
theorem BV:yK yk=y7 yk:=by unfold yK;rw[if_neg wZ]
theorem Is:Pm yk:=by show yk.length≤1048576;rw[j7];omega
def yW(c:Nat):List Int:=bitsOf ((y7 yk).getD c (0,0)).2 ((y7 yk).getD c (0,0)).1.toNat
def xp(xs:List Int):List Int:=([1,1,0]++xs.flatMap fun c=>yW c.toNat)++yW 256
def zY(xs:List Int):List Int:=if xs.length>100000 then []else pk (xp xs) (xp xs).length
theorem qZ{c:Nat}(h:c<288):∃l b:Nat,(y7 yk)[c]? = some ((l:Int),(b:Int))∧l≤15∧b<2^l∧yW c=bitsOf b l:=by
 have hok:=(j6 wZ).2
 have hg:=ql (xs:=yk) (j:=c) (by rw[j7];exact h)
 obtain⟨l,b,e,_,h1,h2⟩:=k6 hok hg
 rw[e]at hg
 refine⟨l,b,hg,h1,h2,?_⟩
 unfold yW
 have e2:(y7 yk).getD c (0,0)=((l:Int),(b:Int)):=by rw[List.getD_eq_getElem?_getD,hg];rfl
 rw[e2,Int.toNat_natCast]
theorem It{c:Nat}:∀b∈yW c,0≤b∧b≤1:=Gt
theorem Dp{c:Nat}(h:c<288):(yW c).length≤15:=by
 obtain⟨l,b,_,h1,_,e⟩:=qZ h
 rw[e,xb];exact h1
theorem Mr{xs:List Int}(hw:∀x∈xs,0≤x∧x≤255):(xs.flatMap fun c=>yW c.toNat).length≤15*xs.length:=by
 induction xs with
 | nil=>simp
 | cons x r ih=>
  have h1:=hw x (List.mem_cons_self ..)
  have h2:=Dp (c:=x.toNat) (by omega)
  have h3:=ih fun y hy=>hw y (List.mem_cons_of_mem _ hy)
  rw[List.flatMap_cons,List.length_append,List.length_cons];omega
theorem Kd{xs:List Int}:∀b∈xp xs,0≤b∧b≤1:=fun b hb=>by
 unfold xp at hb
 rcases List.mem_append.1 hb with h | h
 ·rcases List.mem_append.1 h with h | h
  ·simp at h;omega
  ·obtain⟨c,_,hc⟩:=List.mem_flatMap.1 h
   exact It b hc
 ·exact It b h
theorem Iu{k:IntKind}{a:Option Addr}{l c:Nat}{xs:List Int}(H:Part k h (.slice a l c) xs)(hs:∀b,ze (.slice a l c)=some b→¬S b){i:Nat}(hi:i<xs.length)(x:Int) :
  yC S h (((a.getD default).add (i*1)).add 0)∧Part k (zy h (((a.getD default).add (i*1)).add 0) (.int k x)) (.slice a l c) (xs.set i x)∧∀w,ze (.slice a l c)≠some w→zy h (((a.getD default).add (i*1)).add 0) (.int k x) w=h w:=by
 rcases H with⟨_,rfl⟩ | ⟨b,pr,sp,re,T,e,hb⟩
 ·simp at hi
 ·cases e
  have hsb:=hs b rfl
  have e1:(((some (⟨b,pr.length,none⟩:Addr)).getD default).add (i*1)).add 0=(⟨b,pr.length+i,none⟩:Addr):=by
   rw[add_add,Option.getD_some,zm];simp
  have hsz:pr.length+i<(ints k (pr++xs++sp++re)).size:=by rw[Q4];simp;omega
  rw[e1,jH hb,ints_set]
  have e2:(pr++xs++sp++re).set (pr.length+i) x=pr++xs.set i x++sp++re:=by
   rw[List.append_assoc,List.append_assoc,List.set_append_right _ _ (by omega),Nat.add_sub_cancel_left,List.set_append_left _ _ hi]
   simp[List.append_assoc]
  rw[e2]
  exact⟨⟨⟨(ints k (pr++xs++sp++re))[pr.length+i],by simp[zd,hb]⟩,by simp[yd,hb],hsb⟩,.inr ⟨b,pr,sp,re,T,by simp,upd_same⟩,fun w hw=>upd_ne fun e=>hw (by rw[e];rfl)⟩
theorem Om(hi:Eng.Inv S h0)(hs:Eng.Sub h0 h){a:Option Addr}{c:Nat}{bs:List Int}(P:Part .u8 h (.slice a bs.length c) bs)(N:Eng.New h0 (.slice a bs.length c))(x n:Nat)(hx:x≤32768)(hn:n≤15)(hl:bs.length≤3000000) :
  zc Tryz.prog S Al #[.slice a bs.length c,.int .u64 x,.int .i64 n] h (fun v h'=>Part .u8 h' v (bs++bitsOf x n)∧Eng.New h0 v∧Eng.Sub h0 h'):=by
 refine JU (vs:=[.slice a bs.length c,.int .u64 x,.int .i64 n]) ⟨rfl,rfl,rfl,trivial⟩ (hi.sub hs) ?_
 simp only[Gf,Tr.wp,Ex.ev,coerce,toInt_int,zb,zf,zi,zg,zI,arith,Cst.val,SV.den,zU,List.getD_cons_zero,List.getD_cons_succ,List.getElem?_cons_zero,decide_eq_true_eq,decide_eq_false_iff_not,List.map_cons,List.map_nil,List.cons_append,List.nil_append]
 refine⟨fun us h'=>∃(i:Nat) (a:Option Addr) (c:Nat),us=[.slice a (bs.length+i) c,.int .u64 ((x:Int)/2^i),.int .i64 i]∧i≤n∧Part .u8 h' (.slice a (bs.length+i) c) (bs++bitsOf x i)∧Eng.New h0 (.slice a (bs.length+i) c)∧Eng.Sub h0 h',fun us _=>n-(toInt (us.getD 2 undef)).toNat,⟨0,a,c,by simp,by omega,by simpa[bitsOf]using P,by simpa using N,hs⟩,?_⟩
 rintro a1 l1 c1 y z h' ⟨i,a2,c2,hx1,hi2,P2,N2,s2⟩
 simp only[List.cons.injEq,Value.int.injEq,Value.slice.injEq,true_and,and_true]at hx1
 obtain⟨⟨rfl,rfl,rfl⟩,rfl,rfl⟩:=hx1
 refine⟨fun hlt=>?_,fun hge=>?_⟩
 ·intro b hb
  have hp:(0:Int)<2^i:=Int.pow_pos (by decide)
  have hx0:0≤(x:Int)/2^i:=Int.ediv_nonneg (by omega) (Int.le_of_lt hp)
  have hxl:(x:Int)/2^i≤x:=Int.ediv_le_self _ (by omega)
  have wb:IntKind.u8.wrap (((x:Int)/2^i).tmod 2)=(x:Int)/2^i%2:=by rw[Int.tmod_eq_emod_of_nonneg hx0];exact u8_in _ (by omega)
  have wd:IntKind.u64.wrap (((x:Int)/2^i).tdiv 2)=(x:Int)/2^(i+1):=by rw[u64_quo _ _ ⟨hx0,by omega,by omega⟩,Gn]
  have w2:IntKind.i64.wrap ((i:Int)+1)=((i+1:Nat):Int):=by rw[i64_in _ (by omega)];omega
  rw[wb,wd,w2]
  have s3:Eng.Sub h' (upd h' b (.cells (ints .u8 [(x:Int)/2^i%2]) 5)):=Sub.zC hb
  have hlen:(bs++bitsOf x i).length=bs.length+i:=by rw[List.length_append,xb]
  refine zJ hi (s2.trans s3) (P2.sub s3) N2 (ys:=[(x:Int)/2^i%2]) zj.new (by rw[hlen];simp only[List.length_singleton];omega) fun v' h3 o n3 s4 _ _=>?_
  obtain⟨a4,c4,rfl,_,_⟩:=o.ints
  have e:bs++bitsOf x i++[(x:Int)/2^i%2]=bs++bitsOf x (i+1):=by rw[HM,List.append_assoc]
  have hlen2:(bs++bitsOf x (i+1)).length=bs.length+(i+1):=by rw[List.length_append,xb]
  rw[e,hlen2]at o n3
  simp only[zg,zf,zi,e,hlen2]
  refine⟨⟨i+1,a4,c4,rfl,by omega,o,n3,s4⟩,?_⟩
  show n-(toInt (Value.int .i64 ((i+1:Nat):Int))).toNat<n-(toInt (Value.int .i64 (i:Int))).toNat
  rw[toInt_int,toInt_int];omega
 ·obtain rfl:i=n:=by omega
  exact⟨P2,N2,s2⟩
theorem Fc(hi:Eng.Inv S h0){h2:Eng.Heap}{a:Option Addr}{c n:Nat}{out o2:List Int}(ho2:o2=(if n%8=0 then out++[0]else out))(hlen:n/8<o2.length)(P:Part .u8 h2 (.slice a o2.length c) o2)(N:Eng.New h0 (.slice a o2.length c))(s:Eng.Sub h0 h2)(b:Int) :
  yC S h2 (((a.getD default).add (n/8*1)).add 0)∧Part .u8 (zy h2 (((a.getD default).add (n/8*1)).add 0) (.int .u8 (xh out n+b*2^(n%8)))) (.slice a o2.length c) (qa out n b)∧Eng.Sub h0 (zy h2 (((a.getD default).add (n/8*1)).add 0) (.int .u8 (xh out n+b*2^(n%8)))) ∧
   ∀w,ze (.slice a o2.length c)≠some w→zy h2 (((a.getD default).add (n/8*1)).add 0) (.int .u8 (xh out n+b*2^(n%8))) w=h2 w:=by
 obtain⟨g1,g2,g3⟩:=Iu P (fun b hb hs=>hi b hs (N b hb)) hlen (xh out n+b*2^(n%8))
 refine⟨g1,?_,fun w o hw=>?_,g3⟩
 ·have e:qa out n b=o2.set (n/8) (xh out n+b*2^(n%8)):=by unfold qa xh;rw[←ho2]
  rw[e];exact g2
 ·by_cases hb:ze (.slice a o2.length c)=some w
  ·rw[N w hb]at hw;cases hw
  ·rw[g3 w hb];exact s w o hw
theorem Rc(hi:Eng.Inv S h){a:Option Addr}{c:Nat}{bs:List Int}(hx:zj h .u8 a bs)(hw:∀b∈bs,0≤b∧b≤1)(hl:bs.length≤3000000) :
  zc Tryz.prog S AX #[.slice a bs.length c] h (fun v h'=>tB.O h' v (pk bs bs.length)∧tB.New h v∧Eng.Sub h h'):=by
 refine Ik (vs:=[.slice a bs.length c]) ⟨rfl,trivial⟩ hi ?_
 simp only[En,Tr.wp,Ex.ev,coerce,toInt_int,zb,zf,zi,zg,zh,yi,zI,arith,Cst.val,SV.den,z9,zU,zp,zO,List.getD_cons_zero,List.getD_cons_succ,List.getElem?_cons_zero,List.getElem?_cons_succ,decide_eq_true_eq,decide_eq_false_iff_not,List.map_cons,List.map_nil,List.cons_append,List.nil_append,and_true]
 intro b0 hb0
 have s0:Eng.Sub h (upd h b0 (.cells (ints .u8 []) 5)):=Sub.zC hb0
 refine⟨fun us h'=>∃(i:Nat) (a:Option Addr) (c:Nat),us=[.slice a (pk bs i).length c,.int .i64 i]∧i≤bs.length∧Part .u8 h' (.slice a (pk bs i).length c) (pk bs i)∧Eng.New h (.slice a (pk bs i).length c)∧Eng.Sub h h',fun us _=>bs.length-(toInt (us.getD 1 undef)).toNat,⟨0,_,_,rfl,by omega,(Own.made []).part,New.of hb0,s0⟩,?_⟩
 rintro a1 l1 c1 z h' ⟨i,a2,c2,hx1,hi2,P2,N2,s2⟩
 simp only[List.cons.injEq,Value.int.injEq,Value.slice.injEq,true_and,and_true]at hx1
 obtain⟨⟨rfl,rfl,rfl⟩,rfl⟩:=hx1
 refine⟨fun hlt=>?_,fun hge=>?_⟩
 ·have hi3:i<bs.length:=by omega
  have hw1:=hw _ (List.getElem_mem hi3)
  have w1:(i:Int).tmod 8=((i%8:Nat):Int):=by rw[Int.tmod_eq_emod_of_nonneg (by omega)];omega
  have w2:IntKind.i64.wrap ((i:Int).tdiv 8)=((i/8:Nat):Int):=by rw[Int.tdiv_eq_ediv_of_nonneg (by omega)];exact i64_in _ (by omega)
  have w3:IntKind.u64.wrap ((i%8:Nat):Int)=((i%8:Nat):Int):=u64_in _ (by omega)
  have w4:IntKind.i64.wrap ((i:Int)+1)=((i+1:Nat):Int):=by rw[i64_in _ (by omega)];omega
  have hgd:bs.getD i 0=bs[i]:=by simp[List.getD,List.getElem?_eq_getElem hi3]
  have hb:=CN hw (k:=i)
  have hp7:=Wt (n:=i)
  have hpp:(0:Int)<2^(i%8):=Int.pow_pos (by decide)
  have hmul:0≤bs[i]*2^(i%8)∧bs[i]*2^(i%8)≤2^(i%8):=by
   rcases(show bs[i]=0∨bs[i]=1 by omega)with h | h <;> rw[h] <;> omega
  have fin:∀ {h2:Eng.Heap} {a:Option Addr} {c:Nat} {o2:List Int},o2=(if i%8=0 then pk bs i++[0]else pk bs i)→Part .u8 h2 (.slice a o2.length c) o2→Eng.New h (.slice a o2.length c)→Eng.Sub h h2 →
    ((!a.isNone)=true∧0≤((i/8:Nat):Int)∧((i/8:Nat):Int)<(o2.length:Int)∧∃x,zd h2 (((a.getD default).add (((i/8:Nat):Int).toNat*1)).add 0)=some (.int .u8 x)∧x=xh (pk bs i) i)∧i/8<o2.length:=by
   intro h2 a c o2 ho2 P N s
   have hlen:i/8<o2.length:=by
    have:=qR (bs:=bs) (k:=i)
    rw[ho2];split
    ·rw[List.length_append,this,List.length_singleton];omega
    ·omega
   obtain⟨a',c',e,_,hxx⟩:=P.ints
   simp only[Value.slice.injEq]at e
   obtain⟨rfl,_,rfl⟩:=e
   obtain⟨g1,g2⟩:=hxx.cell (List.getElem?_eq_getElem hlen)
   refine⟨⟨by simpa using g2,by omega,by omega,o2[i/8],by simp only[Int.toNat_natCast,Nat.mul_one,add_add,Nat.add_zero];exact g1,?_⟩,hlen⟩
   unfold xh
   rw[←ho2,List.getD_eq_getElem?_getD,List.getElem?_eq_getElem hlen];rfl
  rw[w1,w2,w3,w4]
  have g2:=(hx.cell (List.getElem?_eq_getElem hi3)).2
  have wr:IntKind.u8.wrap (xh (pk bs i) i+IntKind.u8.wrap (bs[i]*2^min ((i%8:Nat):Int).toNat IntKind.u8.bits))=xh (pk bs i) i+(bs.getD i 0)*2^(i%8):=by
   rw[Int.toNat_natCast,show min (i%8) IntKind.u8.bits=i%8 by(show min (i%8) 8=i%8);omega,u8_in (bs[i]*2^(i%8)) (by omega),u8_in _ (by omega),hgd]
  have hpl:=qR (bs:=bs) (k:=i)
  have hl1:∀o2:List Int,o2=(if i%8=0 then pk bs i++[0]else pk bs i)→(pk bs (i+1)).length=o2.length:=fun o2 e=>by
   rw[pk,qa,List.length_set,←e]
  refine⟨fun h0 b2 hb2=>?_,fun h0=>?_⟩
  ·have h0:i%8=0:=by simp at h0;omega
   have s3:Eng.Sub h' (upd h' b2 (.cells (ints .u8 [0]) 5)):=Sub.zC hb2
   refine zJ hi (s2.trans s3) (P2.sub s3) N2 (ys:=[0]) zj.new (by rw[hpl];simp only[List.length_singleton];omega) fun v' h3 P3 N3 s4 _ _=>?_
   obtain⟨a4,c4,rfl,_,_⟩:=P3.ints
   simp only[zg,zf,zi]
   obtain⟨⟨q1,q2,q3,x,q4,rfl⟩,q5⟩:=fin (o2:=(pk bs i++[0])) (by rw[if_pos h0]) P3 N3 s4
   obtain⟨b1,b2,b3,_⟩:=Fc hi (out:=pk bs i) (by rw[if_pos h0]) q5 P3 N3 s4 (bs.getD i 0)
   intro _
   refine⟨q1,q2,q3,_,q4,by simpa using g2,by omega,hlt,bs[i],?_,by omega,q1,q2,q3,b1,?_,?_⟩
   ·simp only[Int.toNat_natCast,Nat.mul_one,add_add,Nat.add_zero];exact yN s4 (hx.cell (List.getElem?_eq_getElem hi3)).1
   ·rw[wr]
    refine⟨i+1,_,_,by rw[hl1 (pk bs i++[0]) (by rw[if_pos h0])],by omega,?_,?_,b3⟩
    ·rw[hl1 (pk bs i++[0]) (by rw[if_pos h0])];exact b2
    ·rw[hl1 (pk bs i++[0]) (by rw[if_pos h0])];exact N3
   ·show bs.length-(toInt (Value.int .i64 ((i+1:Nat):Int))).toNat<bs.length-(toInt (Value.int .i64 (i:Int))).toNat
    rw[toInt_int,toInt_int];omega
  ·have h0:¬i%8=0:=by simp at h0;omega
   obtain⟨⟨q1,q2,q3,x,q4,rfl⟩,q5⟩:=fin (o2:=(pk bs i)) (by rw[if_neg h0]) P2 N2 s2
   obtain⟨b1,b2,b3,_⟩:=Fc hi (out:=pk bs i) (by rw[if_neg h0]) q5 P2 N2 s2 (bs.getD i 0)
   intro _
   refine⟨q1,q2,q3,_,q4,by simpa using g2,by omega,hlt,bs[i],?_,by omega,q1,q2,q3,b1,?_,?_⟩
   ·simp only[Int.toNat_natCast,Nat.mul_one,add_add,Nat.add_zero];exact yN s2 (hx.cell (List.getElem?_eq_getElem hi3)).1
   ·rw[wr]
    refine⟨i+1,_,_,by rw[hl1 (pk bs i) (by rw[if_neg h0])],by omega,?_,?_,b3⟩
    ·rw[hl1 (pk bs i) (by rw[if_neg h0])];exact b2
    ·rw[hl1 (pk bs i) (by rw[if_neg h0])];exact N2
   ·show bs.length-(toInt (Value.int .i64 ((i+1:Nat):Int))).toNat<bs.length-(toInt (Value.int .i64 (i:Int))).toNat
    rw[toInt_int,toInt_int];omega
 ·obtain rfl:i=bs.length:=by omega
  exact⟨P2,N2,s2⟩
theorem KP{i:Nat}(h:i<288):yk.take (i+1)=yk.take i++[if i<144 then 8 else if i<256 then 9 else if i<280 then 7 else 8]:=by
 rw[List.take_add_one,Mq h];rfl
theorem B0{i:Nat}(h:i≤288):(yk.take i).length=i:=by rw[List.length_take,j7];omega
theorem Ms:yk.take 288=yk:=by rw[List.take_of_length_le (by rw[j7];omega)]
theorem Re(hi:Eng.Inv S h) :
  zc Tryz.prog S AW #[] h (fun v h'=>∃a1 c1 a2 c2,v=.tuple #[.slice a1 288 c1,.slice a2 32 c2]∧Part .i64 h' (.slice a1 288 c1) yk∧Part .i64 h' (.slice a2 32 c2) (List.replicate 32 5)∧Eng.New h (.slice a1 288 c1)∧Eng.New h (.slice a2 32 c2)∧Eng.Sub h h'):=by
 refine Ij (vs:=[]) trivial hi ?_
 simp only[El,Tr.wp,Ex.ev,coerce,toInt_int,zb,zf,zi,zg,wz,IZ,zI,arith,Cst.val,SV.den,zU,List.getD_cons_zero,List.getD_cons_succ,List.getElem?_cons_zero,List.getElem?_cons_succ,decide_eq_true_eq,decide_eq_false_iff_not,List.map_cons,List.map_nil,List.cons_append,List.nil_append,if_false,Bool.false_eq_true]
 intro b1 hb1 b2 hb2
 have s1:Eng.Sub h (upd h b1 (.cells (ints .i64 []) 2)):=Sub.zC hb1
 have s2:Eng.Sub h (upd (upd h b1 (.cells (ints .i64 []) 2)) b2 (.cells (ints .i64 []) 2)):=s1.trans (Sub.zC hb2)
 have hb2':h b2=none:=by
  cases hh:h b2 with
  | none=>rfl
  | some o=>have h3:(some o:Option Obj)=none:=(s1 _ _ hh).symm.trans hb2;cases h3
 have hne:b1≠b2:=fun e=>by rw[←e]at hb2;simp[upd]at hb2
 refine⟨fun us h'=>∃(i:Nat) (a:Option Addr) (c:Nat),us=[.slice a i c,.int .i64 i]∧i≤288∧Part .i64 h' (.slice a i c) (yk.take i)∧Eng.New h (.slice a i c)∧ze (.slice a i c)≠some b2∧h' b2=some (.cells (ints .i64 []) 2)∧Eng.Sub h h',fun us _=>288-(toInt (us.getD 1 undef)).toNat,⟨0,_,_,rfl,by omega,((Own.made (k:=.i64) (T:=2) []).keep (fun b hb=>by cases hb;exact upd_ne hne)).part,New.of hb1,(fun e=>by cases e;exact hne rfl),upd_same,s2⟩,?_⟩
 rintro a1 l1 c1 z h' ⟨i,a1',c1',hx1,hi2,P,N,hn2,h2,s⟩
 obtain⟨⟨rfl,rfl,rfl⟩,rfl⟩:(a1=a1'∧l1=i∧c1=c1')∧z=i:=by simpa using hx1
 refine⟨fun hlt=>?_,fun hge=>?_⟩
 ·intro b hb
  have hi3:l1<288:=by omega
  have hv:(if(decide ((l1:Int)≥256)&&decide ((l1:Int)<280))=true then(7:Int)else if(decide ((l1:Int)≥144)&&decide ((l1:Int)<256))=true then 9 else 8)=(if l1<144 then 8 else if l1<256 then 9 else if l1<280 then 7 else 8):=by
   simp only[Bool.and_eq_true,decide_eq_true_eq]
   repeat' split
   all_goals omega
  rw[hv]
  have w4:IntKind.i64.wrap ((l1:Int)+1)=((l1+1:Nat):Int):=by rw[i64_in _ (by omega)];omega
  have s3:Eng.Sub h' (upd h' b (.cells (ints .i64 [if l1<144 then 8 else if l1<256 then 9 else if l1<280 then 7 else 8]) 2)):=Sub.zC hb
  have hlen:=B0 hi2
  refine zJ hi (s.trans s3) (P.sub s3) N (ys:=[if l1<144 then 8 else if l1<256 then 9 else if l1<280 then 7 else 8]) zj.new (by rw[hlen];simp only[List.length_singleton];omega) fun v' h3 P3 N3 s4 k3 b3=>?_
  rw[←KP hi3]at P3
  obtain⟨a4,c4,rfl,_,_⟩:=P3.ints
  rw[B0 (by omega)]at P3 N3 b3 ⊢
  simp only[zg,zf,zi,w4]
  have hu:upd h' b (.cells (ints .i64 [if l1<144 then 8 else if l1<256 then 9 else if l1<280 then 7 else 8]) 2) b2=some (.cells (ints .i64 []) 2):=s3 _ _ h2
  refine⟨⟨l1+1,_,_,rfl,by omega,P3,N3,?_,?_,s4⟩,?_⟩
  ·rcases b3 with b3 | b3
   ·rw[b3];exact hn2
   ·intro e
    have e3:=b3 _ e
    have e4:(some (Obj.cells (ints .i64 []) 2):Option Obj)=none:=hu.symm.trans e3
    cases e4
  ·refine(k3 b2 (fun e=>?_) hn2).trans hu
   have e4:(some (Obj.cells (ints .i64 []) 2):Option Obj)=none:=hu.symm.trans e
   cases e4
  ·show 288-(toInt (Value.int .i64 ((l1+1:Nat):Int))).toNat<288-(toInt (Value.int .i64 (l1:Int))).toNat
   rw[toInt_int,toInt_int];omega
 ·obtain rfl:l1=288:=by omega
  rw[Ms]at P
  have N2:Eng.New h (.slice (some ⟨b2,0,none⟩) 0 0):=New.of hb2'
  have e2:Part .i64 h' (.slice (some ⟨b2,0,none⟩) 0 0) []:=Own.part ⟨b2,[],_,rfl,h2⟩
  refine⟨fun us h'=>∃(i:Nat) (a:Option Addr) (c:Nat),us=[.slice a i c,.int .i64 i]∧i≤32∧Part .i64 h' (.slice a i c) (List.replicate i 5)∧Eng.New h (.slice a i c)∧(∀z,ze (.slice a i c)=some z→ze (.slice a1 288 c1)≠some z)∧Part .i64 h' (.slice a1 288 c1) yk∧Eng.Sub h h',fun us _=>32-(toInt (us.getD 1 undef)).toNat,⟨0,_,_,rfl,by omega,e2,N2,fun z hz e=>hn2 (by rw[e,←hz];rfl),P,s⟩,?_⟩
  rintro a5 l5 c5 z h' ⟨i,a5',c5',hx1,hi2,P5,N5,hn5,P,s⟩
  obtain⟨⟨rfl,rfl,rfl⟩,rfl⟩:(a5=a5'∧l5=i∧c5=c5')∧z=i:=by simpa using hx1
  refine⟨fun hlt=>?_,fun hge=>?_⟩
  ·intro b hb
   have w4:IntKind.i64.wrap ((l5:Int)+1)=((l5+1:Nat):Int):=by rw[i64_in _ (by omega)];omega
   have s3:Eng.Sub h' (upd h' b (.cells (ints .i64 [5]) 2)):=Sub.zC hb
   have P1:=P.sub s3
   refine zJ hi (s.trans s3) (P5.sub s3) N5 (ys:=[5]) zj.new (by rw[List.length_replicate];simp only[List.length_singleton];omega) fun v' h3 P3 N3 s4 k3 b3=>?_
   have er:List.replicate l5 (5:Int)++[5]=List.replicate (l5+1) 5:=by rw[List.replicate_succ']
   rw[er]at P3
   obtain⟨a4,c4,rfl,_,_⟩:=P3.ints
   rw[List.length_replicate]at P3 N3 b3 ⊢
   simp only[zg,zf,zi,w4]
   have hk:∀z,ze (.slice a1 288 c1)=some z→h3 z=upd h' b (.cells (ints .i64 [5]) 2) z:=fun z hz=>k3 z (P1.held z hz) fun e=>hn5 z e hz
   refine⟨⟨l5+1,_,_,rfl,by omega,P3,N3,?_,P1.keep hk,s4⟩,?_⟩
   ·intro z hz e
    rcases b3 with b3 | b3
    ·rw[b3]at hz;exact hn5 z hz e
    ·exact P1.held z e (b3 z hz)
   ·show 32-(toInt (Value.int .i64 ((l5+1:Nat):Int))).toNat<32-(toInt (Value.int .i64 (l5:Int))).toNat
    rw[toInt_int,toInt_int];omega
  ·obtain rfl:l5=32:=by omega
   exact⟨_,_,_,_,rfl,P,P5,N,N5,s⟩
def hub(i:Nat):List Int:=yk.take i++List.replicate (288-i) 0
theorem Vh{i:Nat}(h:i≤288):(hub i).length=288:=by unfold hub;rw[List.length_append,B0 h,List.length_replicate];omega
theorem Vi{i:Nat}(h:i<288):(hub i).set i (if i<144 then 8 else if i<256 then 9 else if i<280 then 7 else 8)=hub (i+1):=by
 unfold hub
 rw[List.set_append_right _ _ (by rw[B0 (by omega)];omega),B0 (by omega),Nat.sub_self,show 288-i=(288-(i+1))+1 by omega,List.replicate_succ,List.set_cons_zero,KP h,List.append_assoc]
 rfl
theorem Vj:hub 288=yk:=by unfold hub;rw[Ms];simp
theorem Tk:hub 0=List.replicate 288 0:=by unfold hub;rw[List.take_zero,List.nil_append]
def Tl:Tr:=match kV with | .join _ _ t=>t | t=>t
theorem Vk : kV = .join [.slice, .slice, .slice, .slice]
 (.both
  (.mks 2 1 8 [(.int .i64 0)] (.cst (.int .i64 288)) (.cst (.int .i64 288))
  (.mks 2 1 8 [(.int .i64 0)] (.cst (.int .i64 32)) (.cst (.int .i64 32))
  (.cont 0 [(.var (.slice) 0), (.var (.slice) 1), (.var (.slice) 0), (.var (.slice) 1)])))
  (.mks 2 1 8 [(.int .i64 0)] (.cst (.int .i64 32)) (.cst (.int .i64 32))
  (.mks 2 1 8 [(.int .i64 0)] (.cst (.int .i64 288)) (.cst (.int .i64 288))
  (.cont 0 [(.var (.slice) 1), (.var (.slice) 0), (.var (.slice) 1), (.var (.slice) 0)])))) Tl := rfl
theorem Rf(hi:Eng.Inv S h){a1 a2:Option Addr}{c1 c2:Nat}{h1:Eng.Heap}(P1:Part .i64 h1 (.slice a1 288 c1) (List.replicate 288 0))(P2:Part .i64 h1 (.slice a2 32 c2) (List.replicate 32 0))(N1:Eng.New h (.slice a1 288 c1))(N2:Eng.New h (.slice a2 32 c2))(hn:∀z,ze (.slice a2 32 c2)=some z→ze (.slice a1 288 c1)≠some z)(s:Eng.Sub h h1) :
  Tl.wp Tryz.prog S yg (fun v h'=>∃a1 c1 a2 c2,v=.tuple #[.slice a1 288 c1,.slice a2 32 c2]∧Part .i64 h' (.slice a1 288 c1) yk∧Part .i64 h' (.slice a2 32 c2) (List.replicate 32 5)∧Eng.New h (.slice a1 288 c1)∧Eng.New h (.slice a2 32 c2)∧Eng.Sub h h') [.slice a1 288 c1,.slice a2 32 c2,.slice a1 288 c1,.slice a2 32 c2] h1 []:=by
 simp only[Tl,kV,Tr.wp,Ex.ev,coerce,toInt_int,zb,zf,zi,zg,zh,yi,Bd,zI,arith,Cst.val,SV.den,zU,zO,List.getD_cons_zero,List.getD_cons_succ,List.getElem?_cons_zero,List.getElem?_cons_succ,decide_eq_true_eq,decide_eq_false_iff_not,List.map_cons,List.map_nil,List.cons_append,List.nil_append,if_false,Bool.false_eq_true]
 have ns1:∀b,ze (.slice a1 288 c1)=some b→¬S b:=fun z hz hs=>hi z hs (N1 z hz)
 have ns2:∀b,ze (.slice a2 32 c2)=some b→¬S b:=fun z hz hs=>hi z hs (N2 z hz)
 refine⟨fun us h'=>∃i:Nat,us=[.int .i64 i]∧i≤288∧Part .i64 h' (.slice a1 288 c1) (hub i)∧Part .i64 h' (.slice a2 32 c2) (List.replicate 32 0)∧Eng.Sub h h',fun us _=>288-(toInt (us.getD 0 undef)).toNat,⟨0,rfl,by omega,by rw[Tk];exact P1,P2,s⟩,?_⟩
 rintro x h' ⟨i,hx,hi2,P1,P2,s⟩
 obtain rfl:x=i:=by simpa using hx
 refine⟨fun hlt=>?_,fun hge=>?_⟩
 ·have hi3:i<288:=by omega
  have w4:IntKind.i64.wrap ((i:Int)+1)=((i+1:Nat):Int):=by rw[i64_in _ (by omega)];omega
  have hl:=Vh hi2
  have step:∀v:Int,v=(if i<144 then 8 else if i<256 then 9 else if i<280 then 7 else 8) →
    ((!a1.isNone)=true∧0≤(i:Int)∧(i:Int)<((288:Nat):Int)∧yC S h' (((a1.getD default).add ((i:Int).toNat*1)).add 0)) ∧
    ∃i2:Nat,[Value.int .i64 ((i+1:Nat):Int)]=[.int .i64 i2]∧i2≤288∧Part .i64 (zy h' (((a1.getD default).add ((i:Int).toNat*1)).add 0) (.int .i64 v)) (.slice a1 288 c1) (hub i2)∧Part .i64 (zy h' (((a1.getD default).add ((i:Int).toNat*1)).add 0) (.int .i64 v)) (.slice a2 32 c2) (List.replicate 32 0)∧Eng.Sub h (zy h' (((a1.getD default).add ((i:Int).toNat*1)).add 0) (.int .i64 v)):=by
   intro v hv
   obtain⟨g1,g2,g3⟩:=Iu P1 ns1 (i:=i) (by omega) v
   rw[hv,Vi hi3,←hv]at g2
   obtain⟨a',c',e,_,hxx⟩:=P1.ints
   simp only[Value.slice.injEq]at e
   obtain⟨rfl,_,rfl⟩:=e
   have ha:=(hxx.cell (List.getElem?_eq_getElem (show i<(hub i).length by omega))).2
   refine⟨⟨by simpa using ha,by omega,by omega,g1⟩,i+1,rfl,by omega,g2,?_,fun y o hy=>?_⟩
   ·exact P2.keep fun z hz=>g3 z (hn z hz)
   ·by_cases hb:ze (.slice a1 288 c1)=some y
    ·rw[N1 y hb]at hy;cases hy
    ·exact(g3 y hb).trans (s y o hy)
  have meas:(fun us (_:Eng.Heap)=>288-(toInt (us.getD 0 undef)).toNat) [Value.int .i64 ((i+1:Nat):Int)] h'<(fun us (_:Eng.Heap)=>288-(toInt (us.getD 0 undef)).toNat) [Value.int .i64 (i:Int)] h':=by
   show 288-(toInt (Value.int .i64 ((i+1:Nat):Int))).toNat<288-(toInt (Value.int .i64 (i:Int))).toNat
   rw[toInt_int,toInt_int];omega
  rw[w4]
  refine⟨fun hc=>?_,fun hc=>⟨fun hc2=>?_,fun hc2=>?_⟩⟩
  ·have hc:(i:Int)<144∨(i:Int)≥280:=by simpa using hc
   obtain⟨⟨q1,q2,q3,q4⟩,q5⟩:=step 8 (by repeat' split <;> omega)
   exact⟨q1,q2,q3,q4,fun _=>⟨q5,meas⟩⟩
  ·have hc:¬((i:Int)<144∨(i:Int)≥280):=by simpa using hc
   obtain⟨⟨q1,q2,q3,q4⟩,q5⟩:=step 9 (by repeat' split <;> omega)
   exact⟨q1,q2,q3,q4,fun _ _=>⟨q5,meas⟩⟩
  ·have hc:¬((i:Int)<144∨(i:Int)≥280):=by simpa using hc
   obtain⟨⟨q1,q2,q3,q4⟩,q5⟩:=step 7 (by repeat' split <;> omega)
   exact⟨q1,q2,q3,q4,fun _ _=>⟨q5,meas⟩⟩
 ·obtain rfl:i=288:=by omega
  rw[Vj]at P1
  refine⟨fun us h'=>∃i:Nat,us=[.int .i64 i]∧i≤32∧Part .i64 h' (.slice a1 288 c1) yk∧Part .i64 h' (.slice a2 32 c2) (List.replicate i 5++List.replicate (32-i) 0)∧Eng.Sub h h',fun us _=>32-(toInt (us.getD 0 undef)).toNat,⟨0,rfl,by omega,P1,P2,s⟩,?_⟩
  rintro x h' ⟨i,hx,hi2,P1,P2,s⟩
  obtain rfl:x=i:=by simpa using hx
  have hl:(List.replicate i (5:Int)++List.replicate (32-i) 0).length=32:=by rw[List.length_append,List.length_replicate,List.length_replicate];omega
  refine⟨fun hlt=>?_,fun hge=>?_⟩
  ·have hi3:i<32:=by omega
   have w4:IntKind.i64.wrap ((i:Int)+1)=((i+1:Nat):Int):=by rw[i64_in _ (by omega)];omega
   rw[w4]
   obtain⟨g1,g2,g3⟩:=Iu P2 ns2 (i:=i) (by rw[hl];omega) 5
   have es:(List.replicate i (5:Int)++List.replicate (32-i) 0).set i 5=List.replicate (i+1) 5++List.replicate (32-(i+1)) 0:=by
    rw[List.set_append_right _ _ (by rw[List.length_replicate];omega),List.length_replicate,Nat.sub_self,show 32-i=(32-(i+1))+1 by omega,List.replicate_succ,List.set_cons_zero,List.replicate_succ',List.append_assoc]
    rfl
   rw[es]at g2
   obtain⟨a',c',e,_,hxx⟩:=P2.ints
   simp only[Value.slice.injEq]at e
   obtain⟨rfl,_,rfl⟩:=e
   have ha:=(hxx.cell (List.getElem?_eq_getElem (show i<(List.replicate i (5:Int)++List.replicate (32-i) 0).length by omega))).2
   refine⟨by simpa using ha,by omega,by omega,g1,⟨i+1,rfl,by omega,?_,g2,fun y o hy=>?_⟩,?_⟩
   ·exact P1.keep fun z hz=>g3 z fun e=>hn z e hz
   ·by_cases hb:ze (.slice a2 32 c2)=some y
    ·rw[N2 y hb]at hy;cases hy
    ·exact(g3 y hb).trans (s y o hy)
   ·show 32-(toInt (Value.int .i64 ((i+1:Nat):Int))).toNat<32-(toInt (Value.int .i64 (i:Int))).toNat
    rw[toInt_int,toInt_int];omega
  ·obtain rfl:i=32:=by omega
   exact⟨_,_,_,_,rfl,P1,by simpa using P2,N1,N2,s⟩
theorem Fe{b:Nat}{T:TypeId}(n:Nat):Own .i64 (upd h b (.cells (ints .i64 (List.replicate n 0)) T)) (.slice (some ⟨b,0,none⟩) n n) (List.replicate n 0):=by
 have:=Own.made (k:=.i64) (h:=h) (b:=b) (T:=T) (List.replicate n 0)
 rwa[List.length_replicate]at this
theorem HN(hi:Eng.Inv S h) :
  zc Tryz.prog S kR #[] h (fun v h'=>∃a1 c1 a2 c2,v=.tuple #[.slice a1 288 c1,.slice a2 32 c2]∧Part .i64 h' (.slice a1 288 c1) yk∧Part .i64 h' (.slice a2 32 c2) (List.replicate 32 5)∧Eng.New h (.slice a1 288 c1)∧Eng.New h (.slice a2 32 c2)∧Eng.Sub h h'):=by
 refine Ge (vs:=[]) trivial hi ?_
 rw[Vk]
 have e1:IntKind.i64.wrap 288=288:=by decide
 have e2:IntKind.i64.wrap 32=32:=by decide
 have m1:yh ((288:Int).toNat*1) #[Value.int .i64 0]=ints .i64 (List.replicate 288 0):=qI (k:=.i64) 288
 have m2:yh ((32:Int).toNat*1) #[Value.int .i64 0]=ints .i64 (List.replicate 32 0):=qI (k:=.i64) 32
 simp only[Tr.wp,FI,Ex.ev,coerce,toInt_int,zf,zi,zg,Cst.val,List.getD_cons_zero,List.getD_cons_succ,List.getElem?_cons_zero,List.map_cons,List.map_nil,List.cons_append,List.nil_append,e1,e2,m1,m2]
 have ne:∀ {b b':Nat} {o:Obj},upd h b o b'=none→b≠b'∧h b'=none:=fun {b b' o} hb=>by
  have n:b≠b':=fun e=>by rw[e,upd_same]at hb;cases hb
  exact⟨n,by rw[←upd_ne (h:=h) (o:=o) (Ne.symm n)];exact hb⟩
 refine⟨⟨by omega,by omega,by decide,fun b hb=>⟨by omega,by omega,by decide,fun b' hb' _=>?_⟩⟩,by omega,by omega,by decide,fun b hb=>⟨by omega,by omega,by decide,fun b' hb' _=>?_⟩⟩
 ·obtain⟨n,hb2⟩:=ne hb'
  refine Rf hi ((Fe (h:=h) (T:=2) 288).keep fun z hz=>?_).part (Fe 32).part (New.of hb) (New.of hb2) (fun z hz e=>?_) ((Sub.zC hb).trans (Sub.zC hb'))
  ·cases hz;exact upd_ne n
  ·cases hz;cases e;exact n rfl
 ·obtain⟨n,hb2⟩:=ne hb'
  refine Rf hi (Fe 288).part ((Fe (h:=h) (T:=2) 32).keep fun z hz=>?_).part (New.of hb2) (New.of hb) (fun z hz e=>?_) ((Sub.zC hb).trans (Sub.zC hb'))
  ·cases hz;exact upd_ne n
  ·cases hz;cases e;exact n rfl
theorem Rh{xs:List Int}{i:Nat}(h:i<xs.length):(xs.take (i+1)).flatMap (fun c=>yW c.toNat)=(xs.take i).flatMap (fun c=>yW c.toNat)++yW xs[i].toNat:=by
 rw[List.take_add_one,List.getElem?_eq_getElem h,List.flatMap_append]
 simp
theorem Mt{h h':Eng.Heap}(s:Eng.Sub h h'){z:Nat}(hz:h' z=none):h z=none:=by
 cases hh:h z with
 | none=>rfl
 | some o=>exact(by rw[s _ _ hh]at hz;cases hz)
def pre(xs:List Int)(i:Nat):List Int:=[1,1,0]++(xs.take i).flatMap fun c=>yW c.toNat
theorem Mu{xs:List Int}{i:Nat}(h:i<xs.length):pre xs (i+1)=pre xs i++yW xs[i].toNat:=by
 unfold pre;rw[Rh h,List.append_assoc]
theorem Hb{xs:List Int}:pre xs xs.length++yW 256=xp xs:=by unfold pre xp;rw[List.take_length]
theorem Ke{xs:List Int}(hw:∀x∈xs,0≤x∧x≤255){i:Nat}(hi:i≤xs.length):(pre xs i).length≤3+15*i:=by
 have:=Mr (xs:=xs.take i) fun x hx=>hw x (List.mem_of_mem_take hx)
 have hl:(xs.take i).length≤i:=by rw[List.length_take];omega
 unfold pre
 rw[List.length_append]
 simp only[List.length_cons,List.length_nil]
 omega
theorem Gu(hi:Eng.Inv S h){v:Value}{xs:List Int}(O:tB.O h v xs)(hw:∀x∈xs,0≤x∧x≤255)(L:DT xs) :
  zc Tryz.prog S qN #[v] h (fun v h'=>tB.O h' v (zY xs)∧tB.New h v∧Eng.Sub h h'):=by
 obtain⟨a,c,rfl,hc,hx⟩:=Part.ints O
 refine ET (vs:=[.slice a xs.length c]) ⟨rfl,trivial⟩ hi ?_
 simp only[Br,Tr.wp,zG,Ex.ev,coerce,toInt_int,zb,zf,zi,zg,zh,yi,zI,arith,Cst.val,SV.den,zq,zL,zE,zo,zn,z9,zU,zp,List.flatMap_cons,List.flatMap_nil,List.getD_cons_zero,List.getD_cons_succ,List.getElem?_cons_zero,List.getElem?_cons_succ,decide_eq_true_eq,decide_eq_false_iff_not,List.map_cons,List.map_nil,List.cons_append,List.nil_append,List.append_nil,List.length_cons,List.length_nil,Nat.zero_add,and_true,if_true,if_false,Bool.false_eq_true]
 refine⟨fun hgt b hb=>?_,fun hle=>?_⟩
 ·have e:zY xs=[]:=if_pos (by omega)
  rw[e]
  exact⟨(Own.made (k:=.u8) (h:=h) (b:=b) (T:=5) []).part,New.of hb,Sub.zC hb⟩
 have hle:xs.length≤100000:=by omega
 have e:zY xs=pk (xp xs) (xp xs).length:=if_neg (by omega)
 rw[e]
 refine(Re hi).mono ?_
 rintro _ h1 ⟨a1,c1,a2,c2,rfl,P1,P2,N1,N2,s1⟩
 refine⟨_,_,_,_,_,_,rfl,(Ir (hi.sub s1) (xs:=yk) P1 Is).mono ?_⟩
 rintro w h2 ⟨O3,N3,s2⟩
 obtain⟨a3,c3,rfl,_,hx3⟩:=xr.yF O3
 rw[BV]at hx3
 refine⟨_,_,_,rfl,?_⟩
 have hcl:(yK yk).length=288:=by rw[BV,wG,j7]
 rw[hcl]
 have hi2:=hi.sub (s1.trans s2)
 intro b3 hb3
 have s3:Eng.Sub h2 (upd h2 b3 (.cells (ints .u8 [1,1,0]) 5)):=Sub.zC hb3
 have s12:=s1.trans s2
 refine⟨fun us h'=>∃(i:Nat) (a:Option Addr) (c:Nat),us=[.slice a (pre xs i).length c,.int .i64 i]∧i≤xs.length∧Part .u8 h' (.slice a (pre xs i).length c) (pre xs i)∧Eng.New h2 (.slice a (pre xs i).length c)∧Eng.Sub h2 h',fun us _=>xs.length-(toInt (us.getD 1 undef)).toNat,⟨0,_,_,rfl,by omega,(Own.made (k:=.u8) (h:=h2) (b:=b3) (T:=5) [1,1,0]).part,New.of hb3,s3⟩,?_⟩
 rintro a4 l4 c4 z h' ⟨i,a4',c4',hx1,hi3,P,N,s⟩
 obtain⟨⟨rfl,rfl,rfl⟩,rfl⟩:(a4=a4'∧l4=(pre xs i).length∧c4=c4')∧z=i:=by simpa using hx1
 have hpl:=Ke hw hi3
 refine⟨fun hlt=>?_,fun hge=>?_⟩
 ·have hi4:i<xs.length:=by omega
  have hwi:=hw _ (List.getElem_mem hi4)
  obtain⟨x1,x2⟩:=(hx.sub (s12.trans s)).cell (List.getElem?_eq_getElem hi4)
  obtain⟨l,b,hg,hl,hb,hcb⟩:=qZ (c:=xs[i].toNat) (by omega)
  obtain⟨y1,y2,y3⟩:=(hx3.sub s).cell hg
  have hp:2^l≤2^15:=Nat.pow_le_pow_right (by decide) hl
  have e15:2^15=32768:=by decide
  have w4:IntKind.i64.wrap ((i:Int)+1)=((i+1:Nat):Int):=by rw[i64_in _ (by omega)];omega
  refine⟨by simpa using x2,by omega,hlt,xs[i],by simpa[add_add]using x1,by simpa using y3,by omega,by omega,_,_,⟨by simpa[add_add]using y1,by simpa[add_add]using y2⟩,?_⟩
  refine(Om hi2 s P N b l (by omega) (by omega) (by omega)).mono ?_
  rintro _ h3 ⟨P3,N3,s3⟩
  obtain⟨a5,c5,rfl,_,_⟩:=P3.ints
  have ep:pre xs i++bitsOf (b:Int) l=pre xs (i+1):=by rw[Mu hi4,hcb]
  rw[ep]at P3 N3 ⊢
  rw[w4]
  refine⟨_,_,_,rfl,⟨i+1,_,_,rfl,by omega,P3,N3,s3⟩,?_⟩
  show xs.length-(toInt (Value.int .i64 ((i+1:Nat):Int))).toNat<xs.length-(toInt (Value.int .i64 (i:Int))).toNat
  rw[toInt_int,toInt_int];omega
 ·obtain rfl:i=xs.length:=by omega
  obtain⟨l,b,hg,hl,hb,hcb⟩:=qZ (c:=256) (by omega)
  obtain⟨y1,y2,y3⟩:=(hx3.sub s).cell hg
  have hp:2^l≤2^15:=Nat.pow_le_pow_right (by decide) hl
  have e15:2^15=32768:=by decide
  refine⟨by simpa using y3,by simp,by omega,_,by simpa[add_add]using y2,by simpa using y3,by simp,by omega,_,by simpa[add_add]using y1,?_⟩
  refine(Om hi2 s P N b l (by omega) (by omega) (by omega)).mono ?_
  rintro _ h3 ⟨P3,N3,s3⟩
  obtain⟨a5,c5,rfl,_,hx5⟩:=P3.ints
  have ep:pre xs xs.length++bitsOf (b:Int) l=xp xs:=by rw[←Hb,hcb]
  rw[ep]at P3 N3 hx5 ⊢
  have hsl:(xp xs).length≤3000000:=by
   have:=Dp (c:=256) (by omega)
   rw[←Hb,List.length_append];omega
  refine⟨_,_,_,rfl,(Rc (hi.sub (s12.trans s3)) hx5 Kd hsl).mono ?_⟩
  rintro v' h4 ⟨P4,N4,s4⟩
  obtain⟨a6,c6,rfl,_,_⟩:=Part.ints P4
  exact⟨_,_,_,rfl,P4,fun z hz=>Mt (s12.trans s3) (N4 z hz),(s12.trans s3).trans s4⟩
theorem E6{bs:List Int}{b:Int}:pk (bs++[b]) (bs++[b]).length=qa (pk bs bs.length) bs.length b:=by
 rw[List.length_append,List.length_singleton,pk,QZ (Nat.le_refl _)]
 congr 1
 rw[List.getD_eq_getElem?_getD,List.getElem?_append_right (Nat.le_refl _),Nat.sub_self]
 rfl
def Hc(h0 h:Eng.Heap)(bN bO:Nat)(bs:List Int):Prop:=
 ∃a c,h bN=some (.cells #[.int .i64 bs.length] 3)∧h bO=some (.cells #[.slice a (pk bs bs.length).length c] 22)∧Part .u8 h (.slice a (pk bs bs.length).length c) (pk bs bs.length)∧Eng.New h0 (.slice a (pk bs bs.length).length c)∧ze (.slice a (pk bs bs.length).length c)≠some bN∧ze (.slice a (pk bs bs.length).length c)≠some bO∧Eng.Sub h0 h
theorem Ff(hi:Eng.Inv S h0){bN bO:Nat}(hne:bN≠bO)(hN:h0 bN=none)(hO:h0 bO=none){bs:List Int}(h01:∀b∈bs,0≤b∧b≤1)(E:Hc h0 h bN bO bs)(x n:Nat)(hx:x≤32768)(hn:n≤15)(hl:bs.length≤3000000) :
  zc Tryz.prog S yZ #[.int .u64 x,.int .i64 n,.pointer (some ⟨bN,0,none⟩),.pointer (some ⟨bO,0,none⟩)] h (fun v h'=>v=.tuple #[]∧Hc h0 h' bN bO (bs++bitsOf x n)):=by
 refine DF (vs:=[.int .u64 x,.int .i64 n,.pointer (some ⟨bN,0,none⟩),.pointer (some ⟨bO,0,none⟩)]) ⟨rfl,rfl,rfl,rfl,trivial⟩ (hi.sub E.choose_spec.choose_spec.2.2.2.2.2.2) ?_
 simp only[Ap,Tr.wp,Ex.ev,coerce,toInt_int,zb,zf,zi,zg,zh,yi,zI,arith,Cst.val,SV.den,z9,zU,zp,zO,List.getD_cons_zero,List.getD_cons_succ,List.getElem?_cons_zero,List.getElem?_cons_succ,decide_eq_true_eq,decide_eq_false_iff_not,List.map_cons,List.map_nil,List.cons_append,List.nil_append,and_true,true_and]
 have nsN:¬S bN:=fun hs=>hi _ hs hN
 have nsO:¬S bO:=fun hs=>hi _ hs hO
 refine⟨fun us h'=>∃i:Nat,us=[.int .i64 i]∧i≤n∧Hc h0 h' bN bO (bs++bitsOf x i),fun us _=>n-(toInt (us.getD 0 undef)).toNat,⟨0,rfl,by omega,by simpa[bitsOf]using E⟩,?_⟩
 rintro z h' ⟨i,hx1,hi2,E⟩
 obtain rfl:z=i:=by simpa using hx1
 refine⟨fun hlt=>?_,fun hge=>?_⟩
 ·have hi3:i<n:=by omega
  have hlen:(bs++bitsOf x i).length=bs.length+i:=by rw[List.length_append,xb]
  have h01':∀b∈bs++bitsOf x i,0≤b∧b≤1:=fun b hb=>by
   rcases List.mem_append.1 hb with hb | hb
   ·exact h01 b hb
   ·exact Gt b hb
  have hsucc:bs++bitsOf x (i+1)=(bs++bitsOf x i)++[(x:Int)/2^i%2]:=by rw[HM,List.append_assoc]
  obtain⟨a,c,e1,e2,P,N,n1,n2,s⟩:=E
  generalize bs++bitsOf x i=cs at *
  have hl2:cs.length≤3000015:=by omega
  have w4:IntKind.i64.wrap ((i:Int)+1)=((i+1:Nat):Int):=by rw[i64_in _ (by omega)];omega
  have ad0:∀b:Nat,(⟨b,0,none⟩:Addr).add 0=⟨b,0,none⟩:=fun b=>by rw[ye]
  have wm:((cs.length:Nat):Int).tmod 8=((cs.length%8:Nat):Int):=by rw[Int.tmod_eq_emod_of_nonneg (by omega)];omega
  have wq:IntKind.i64.wrap (((cs.length:Nat):Int).tdiv 8)=((cs.length/8:Nat):Int):=by rw[Int.tdiv_eq_ediv_of_nonneg (by omega)];exact i64_in _ (by omega)
  have w5:IntKind.i64.wrap (((cs.length:Nat):Int)+1)=(((cs++[(x:Int)/2^i%2]).length:Nat):Int):=by rw[i64_in _ (by omega),List.length_append,List.length_singleton];omega
  have hb:=CN h01' (k:=cs.length)
  have hp7:=Wt (n:=cs.length)
  have hpp:(0:Int)<2^(cs.length%8):=Int.pow_pos (by decide)
  have hmul:0≤(x:Int)/2^i%2*2^(cs.length%8)∧(x:Int)/2^i%2*2^(cs.length%8)≤2^(cs.length%8):=by
   rcases(show(x:Int)/2^i%2=0∨(x:Int)/2^i%2=1 by omega)with h | h <;> rw[h] <;> omega
  have wr:Go.bits .or .u8 (xh (pk cs cs.length) cs.length) (IntKind.u8.wrap (IntKind.u8.wrap (Go.bits .and .u64 ((x:Int).fdiv (2^min (i:Int).toNat IntKind.u64.bits)) 1)*2^min ((cs.length%8:Nat):Int).toNat IntKind.u8.bits))=xh (pk cs cs.length) cs.length+(x:Int)/2^i%2*2^(cs.length%8):=by
   have b1:IntKind.u64.bits=64:=rfl
   have b2:IntKind.u8.bits=8:=rfl
   have hp:(0:Int)≤2^i:=Int.le_of_lt (Int.pow_pos (by decide))
   rw[b1,b2,Int.toNat_natCast,Int.toNat_natCast,show min i 64=i by omega,show min (cs.length%8) 8=cs.length%8 by omega,Ig,Int.fdiv_eq_ediv_of_nonneg _ hp,u8_in ((x:Int)/2^i%2) (by omega),u8_in ((x:Int)/2^i%2*2^(cs.length%8)) (by omega)]
   exact XI _ hb.1 hb.2 (by omega) (by omega)
  have cellAt:∀ {h2:Eng.Heap} {b:Nat} {v:Value} {T:TypeId},h2 b=some (.cells #[v] T)→zd h2 ⟨b,0,none⟩=some v:=fun e=>by simp[zd,e]
  have okAt:∀ {h2:Eng.Heap} {b:Nat} {v:Value} {T:TypeId},h2 b=some (.cells #[v] T)→¬S b→yC S h2 ⟨b,0,none⟩:=fun e hs=>⟨⟨_,cellAt e⟩,by simp[yd,e],hs⟩
  have setAt:∀ {h2:Eng.Heap} {b:Nat} {v w:Value} {T:TypeId},h2 b=some (.cells #[v] T)→zy h2 ⟨b,0,none⟩ w=upd h2 b (.cells #[w] T):=fun e=>by rw[jH e];rfl
  have hl1:∀o2:List Int,o2=(if cs.length%8=0 then pk cs cs.length++[0]else pk cs cs.length)→(qa (pk cs cs.length) cs.length ((x:Int)/2^i%2)).length=o2.length:=fun o2 e=>by
   rw[qa,List.length_set,←e]
  have fin:∀ {h2:Eng.Heap} {a:Option Addr} {c:Nat} {o2:List Int},o2=(if cs.length%8=0 then pk cs cs.length++[0]else pk cs cs.length)→Part .u8 h2 (.slice a o2.length c) o2→Eng.New h0 (.slice a o2.length c)→Eng.Sub h0 h2 →
    ((!a.isNone)=true∧0≤((cs.length/8:Nat):Int)∧((cs.length/8:Nat):Int)<(o2.length:Int)∧∃x,zd h2 (((a.getD default).add (((cs.length/8:Nat):Int).toNat*1)).add 0)=some (.int .u8 x)∧x=xh (pk cs cs.length) cs.length)∧cs.length/8<o2.length:=by
   intro h2 a c o2 ho2 P N s
   have hlen:cs.length/8<o2.length:=by
    have:=qR (bs:=cs) (k:=cs.length)
    rw[ho2];split
    ·rw[List.length_append,this,List.length_singleton];omega
    ·omega
   obtain⟨a',c',e,_,hxx⟩:=P.ints
   simp only[Value.slice.injEq]at e
   obtain⟨rfl,_,rfl⟩:=e
   obtain⟨g1,g2⟩:=hxx.cell (List.getElem?_eq_getElem hlen)
   refine⟨⟨by simpa using g2,by omega,by omega,o2[cs.length/8],by simp only[Int.toNat_natCast,Nat.mul_one,add_add,Nat.add_zero];exact g1,?_⟩,hlen⟩
   unfold xh
   rw[←ho2,List.getD_eq_getElem?_getD,List.getElem?_eq_getElem hlen];rfl
  have done:∀ {h2:Eng.Heap} {a:Option Addr} {c:Nat} (o2:List Int),o2=(if cs.length%8=0 then pk cs cs.length++[0]else pk cs cs.length)→Eng.New h0 (.slice a o2.length c) →
    ze (.slice a o2.length c)≠some bN→ze (.slice a o2.length c)≠some bO→Part .u8 h2 (.slice a o2.length c) (qa (pk cs cs.length) cs.length ((x:Int)/2^i%2))→Eng.Sub h0 h2→h2 bO=some (.cells #[.slice a o2.length c] 22) →
    Hc h0 (upd h2 bN (.cells #[.int .i64 (((cs++[(x:Int)/2^i%2]).length:Nat):Int)] 3)) bN bO (cs++[(x:Int)/2^i%2]):=by
   intro h2 a c o2 ho2 N m1 m2 g2 g3 f2
   have e:=hl1 o2 ho2
   refine⟨a,c,upd_same,?_,?_,?_,?_,?_,fun y o hy=>?_⟩
   ·rw[E6,e,upd_ne (Ne.symm hne)];exact f2
   ·rw[E6,e];exact g2.keep fun z hz=>upd_ne fun e=>m1 (by rw[←e];exact hz)
   ·rw[E6,e];exact N
   ·rw[E6,e];exact m1
   ·rw[E6,e];exact m2
   ·rw[upd_ne (fun e=>by rw[e,hN]at hy;cases hy)];exact g3 y o hy
  simp only[ad0]
  refine⟨_,cellAt e1,?_⟩
  simp only[w4]
  refine⟨fun h0'=>?_,fun h0'=>?_⟩
  ·have h0':cs.length%8=0:=by rw[wm]at h0';simp at h0';omega
   refine⟨_,_,_,cellAt e2,fun b2 hb2=>?_⟩
   have s3:Eng.Sub h' (upd h' b2 (.cells (ints .u8 [0]) 5)):=Sub.zC hb2
   have hpl:=qR (bs:=cs) (k:=cs.length)
   refine zJ hi (s.trans s3) (P.sub s3) N (ys:=[0]) zj.new (by rw[hpl];simp only[List.length_singleton];omega) fun v' h3 P3 N3 s4 k3 b3=>?_
   obtain⟨a4,c4,rfl,_,_⟩:=P3.ints
   have other:∀(y:Nat) (o:Obj),h' y=some o→ze (.slice a (pk cs cs.length).length c)≠some y→h3 y=some o∧ze (.slice a4 (pk cs cs.length++[0]).length c4)≠some y:=by
    intro y o hy hny
    have e5:=s3 y o hy
    have hnn:upd h' b2 (.cells (ints .u8 [0]) 5) y≠none:=fun e=>by
     have e6:some o=none:=e5.symm.trans e
     cases e6
    refine⟨(k3 y hnn hny).trans e5,fun e=>?_⟩
    rcases b3 with b3 | b3
    ·rw[b3]at e;exact hny e
    ·exact hnn (b3 y e)
   obtain⟨d1,m1⟩:=other bN _ e1 n1
   obtain⟨d2',m2⟩:=other bO _ e2 n2
   simp only[zg,zf,zi]
   refine⟨okAt d2' nsO,fun _=>?_⟩
   rw[setAt d2']
   have d2:upd h3 bO (.cells #[.slice a4 (pk cs cs.length++[0]).length c4] 22) bO=some (.cells #[.slice a4 (pk cs cs.length++[0]).length c4] 22):=upd_same
   have d1:upd h3 bO (.cells #[.slice a4 (pk cs cs.length++[0]).length c4] 22) bN=some (.cells #[.int .i64 ((cs.length:Nat):Int)] 3):=(upd_ne hne).trans d1
   have P5:Part .u8 (upd h3 bO (.cells #[.slice a4 (pk cs cs.length++[0]).length c4] 22)) (.slice a4 (pk cs cs.length++[0]).length c4) (pk cs cs.length++[0]):=P3.keep fun z hz=>upd_ne fun e=>m2 (by rw[←e];exact hz)
   have s5:Eng.Sub h0 (upd h3 bO (.cells #[.slice a4 (pk cs cs.length++[0]).length c4] 22)):=fun y o hy=>(upd_ne fun e=>by rw[e,hO]at hy;cases hy).trans (s4 y o hy)
   generalize upd h3 bO (.cells #[.slice a4 (pk cs cs.length++[0]).length c4] 22)=h5 at *
   obtain⟨⟨q1,q2,q3,b0,q4,rfl⟩,q5⟩:=fin (o2:=(pk cs cs.length++[0])) (by rw[if_pos h0']) P5 N3 s5
   obtain⟨g1,g2,g3,g4⟩:=Fc hi (out:=pk cs cs.length) (by rw[if_pos h0']) q5 P5 N3 s5 ((x:Int)/2^i%2)
   have f1:=(g4 bN m1).trans d1
   have f2:=(g4 bO m2).trans d2
   refine⟨_,_,_,cellAt d2,_,cellAt d1,?_⟩
   simp only[wq]
   refine⟨q1,q2,q3,_,q4,by omega,_,cellAt d1,?_,q1,q2,q3,g1,?_⟩
   ·rw[wm];omega
   rw[wm,wr]
   refine⟨_,cellAt f1,okAt f1 nsN,⟨i+1,rfl,by omega,?_⟩,?_⟩
   ·rw[Int.toNat_natCast,setAt f1,w5,hsucc]
    exact done (pk cs cs.length++[0]) (by rw[if_pos h0']) N3 m1 m2 g2 g3 f2
   ·show n-(toInt (Value.int .i64 ((i+1:Nat):Int))).toNat<n-(toInt (Value.int .i64 (i:Int))).toNat
    rw[toInt_int,toInt_int];omega
  ·have h0':¬cs.length%8=0:=by rw[wm]at h0';simp at h0';omega
   intro _
   have d1:=e1
   have d2:=e2
   have m1:=n1
   have m2:=n2
   obtain⟨⟨q1,q2,q3,b0,q4,rfl⟩,q5⟩:=fin (o2:=(pk cs cs.length)) (by rw[if_neg h0']) P N s
   obtain⟨g1,g2,g3,g4⟩:=Fc hi (out:=pk cs cs.length) (by rw[if_neg h0']) q5 P N s ((x:Int)/2^i%2)
   have f1:=(g4 bN m1).trans d1
   have f2:=(g4 bO m2).trans d2
   refine⟨_,_,_,cellAt d2,_,cellAt d1,?_⟩
   simp only[wq]
   refine⟨q1,q2,q3,_,q4,by omega,_,cellAt d1,?_,q1,q2,q3,g1,?_⟩
   ·rw[wm];omega
   rw[wm,wr]
   refine⟨_,cellAt f1,okAt f1 nsN,⟨i+1,rfl,by omega,?_⟩,?_⟩
   ·rw[Int.toNat_natCast,setAt f1,w5,hsucc]
    exact done (pk cs cs.length) (by rw[if_neg h0']) N m1 m2 g2 g3 f2
   ·show n-(toInt (Value.int .i64 ((i+1:Nat):Int))).toNat<n-(toInt (Value.int .i64 (i:Int))).toNat
    rw[toInt_int,toInt_int];omega
 ·obtain rfl:i=n:=by omega
  exact E
theorem Ri{b:Nat}{v w:Value}{T:TypeId}{K:Eng.Heap→Prop}(e:h b=some (.cells #[v] T))(hs:¬S b)(hK:K (upd h b (.cells #[w] T))):zO S ⟨b,0,none⟩ 0 [w] h K:=by
 have ad0:(⟨b,0,none⟩:Addr).add 0=⟨b,0,none⟩:=by rw[ye]
 refine⟨by rw[ad0];exact⟨⟨v,by simp[zd,e]⟩,by simp[yd,e],hs⟩,?_⟩
 rw[ad0,jH e]
 exact hK
theorem Rj{xs:List Int}{i:Nat}:∀b∈pre xs i,0≤b∧b≤1:=fun b hb=>by
 unfold pre at hb
 rcases List.mem_append.1 hb with h | h
 ·simp at h;omega
 ·obtain⟨c,_,hc⟩:=List.mem_flatMap.1 h
  exact It b hc
theorem Gv(hi:Eng.Inv S h){v:Value}{xs:List Int}(O:tB.O h v xs)(hw:∀x∈xs,0≤x∧x≤255)(L:DT xs) :
  zc Tryz.prog S qL #[v] h (fun v h'=>tB.O h' v (zY xs)∧tB.New h v∧Eng.Sub h h'):=by
 obtain⟨a,c,rfl,hc,hx⟩:=Part.ints O
 refine ES (vs:=[.slice a xs.length c]) ⟨rfl,trivial⟩ hi ?_
 simp only[Bq,Tr.wp,zG,Ex.ev,coerce,toInt_int,zb,zf,zi,zg,zh,yi,zI,arith,Cst.val,SV.den,zq,zL,zE,zo,zn,yo,z9,zU,zp,List.flatMap_cons,List.flatMap_nil,List.replicate_one,List.getD_cons_zero,List.getD_cons_succ,List.getElem?_cons_zero,List.getElem?_cons_succ,decide_eq_true_eq,decide_eq_false_iff_not,List.map_cons,List.map_nil,List.cons_append,List.nil_append,List.append_nil,List.length_cons,List.length_nil,Nat.zero_add,and_true,if_true,if_false,Bool.false_eq_true]
 refine⟨fun hgt b hb=>?_,fun hle=>?_⟩
 ·have e:zY xs=[]:=if_pos (by omega)
  rw[e]
  exact⟨(Own.made (k:=.u8) (h:=h) (b:=b) (T:=5) []).part,New.of hb,Sub.zC hb⟩
 have hle:xs.length≤100000:=by omega
 have e:zY xs=pk (xp xs) (xp xs).length:=if_neg (by omega)
 rw[e]
 refine(HN hi).mono ?_
 rintro _ h1 ⟨a1,c1,a2,c2,rfl,P1,P2,N1,N2,s1⟩
 refine⟨_,_,_,_,_,_,rfl,(CH (hi.sub s1) (xs:=yk) P1 Is).mono ?_⟩
 rintro w h2 ⟨O3,N3,s2⟩
 obtain⟨a3,c3,rfl,_,hx3⟩:=xr.yF O3
 rw[BV]at hx3
 refine⟨_,_,_,rfl,?_⟩
 have hcl:(yK yk).length=288:=by rw[BV,wG,j7]
 rw[hcl]
 have hi2:=hi.sub (s1.trans s2)
 have s12:=s1.trans s2
 intro b4 hb4 bO hbO
 have ne:∀ {g:Eng.Heap} {b b':Nat} {o:Obj},upd g b o b'=none→b≠b'∧g b'=none:=fun {g b b' o} hb=>by
  have n:b≠b':=fun e=>by rw[e,upd_same]at hb;cases hb
  exact⟨n,by rw[←upd_ne (h:=g) (o:=o) (Ne.symm n)];exact hb⟩
 obtain⟨n4O,hO⟩:=ne hbO
 have nsO:¬S bO:=fun hs=>hi2 _ hs hO
 refine Ri (v:=.slice none 0 0) upd_same nsO fun bN hbN=>?_
 rw[yY]at hbN ⊢
 obtain⟨nON,hN'⟩:=ne hbN
 obtain⟨n4N,hN⟩:=ne hN'
 have nsN:¬S bN:=fun hs=>hi2 _ hs hN
 refine Ri (v:=.int .i64 0) upd_same nsN ?_
 rw[yY]
 have E0:Hc h2 (upd (upd (upd h2 b4 (.cells #[] 5)) bO (.cells #[.slice (some ⟨b4,0,none⟩) 0 0] 22)) bN (.cells #[.int .i64 0] 3)) bN bO []:=by
  refine⟨some ⟨b4,0,none⟩,0,upd_same,?_,?_,New.of hb4,fun e=>by cases e;exact n4N rfl,fun e=>by cases e;exact n4O rfl,?_⟩
  ·rw[upd_ne nON];exact upd_same
  ·exact((Own.made (k:=.u8) (h:=h2) (b:=b4) (T:=5) []).part).keep fun z hz=>by cases hz;exact(upd_ne n4N).trans (upd_ne n4O)
  ·exact((Sub.zC hb4).trans (Sub.zC hbO)).trans (Sub.zC hbN)
 have hne:bN≠bO:=Ne.symm nON
 refine(Ff hi2 hne hN hO (bs:=[]) (fun b hb=>by cases hb) E0 1 1 (by omega) (by omega) (by simp)).mono ?_
 rintro _ h3 ⟨rfl,E1⟩
 refine⟨rfl,(Ff hi2 hne hN hO (bs:=[]++bitsOf (1:Nat) 1) (fun b hb=>Gt b hb) E1 1 2 (by omega) (by omega) (by simp[bitsOf])).mono ?_⟩
 rintro _ h4 ⟨rfl,E2⟩
 refine⟨rfl,?_⟩
 have ep:[]++bitsOf (1:Nat) 1++bitsOf (1:Nat) 2=pre xs 0:=by unfold pre;rw[List.take_zero];decide
 rw[ep]at E2
 refine⟨fun us h'=>∃i:Nat,us=[.int .i64 i]∧i≤xs.length∧Hc h2 h' bN bO (pre xs i),fun us _=>xs.length-(toInt (us.getD 0 undef)).toNat,⟨0,rfl,by omega,E2⟩,?_⟩
 rintro z h' ⟨i,hx1,hi3,E⟩
 obtain rfl:z=i:=by simpa using hx1
 have hpl:=Ke hw hi3
 have s:Eng.Sub h2 h':=E.choose_spec.choose_spec.2.2.2.2.2.2
 refine⟨fun hlt=>?_,fun hge=>?_⟩
 ·have hi4:i<xs.length:=by omega
  have hwi:=hw _ (List.getElem_mem hi4)
  obtain⟨x1,x2⟩:=(hx.sub (s12.trans s)).cell (List.getElem?_eq_getElem hi4)
  obtain⟨l,b,hg,hl,hb,hcb⟩:=qZ (c:=xs[i].toNat) (by omega)
  obtain⟨y1,y2,y3⟩:=(hx3.sub s).cell hg
  have hp:2^l≤2^15:=Nat.pow_le_pow_right (by decide) hl
  have e15:2^15=32768:=by decide
  have w4:IntKind.i64.wrap ((i:Int)+1)=((i+1:Nat):Int):=by rw[i64_in _ (by omega)];omega
  refine⟨by simpa using x2,by omega,hlt,xs[i],by simpa[add_add]using x1,by simpa using y3,by omega,by omega,_,by simpa[add_add]using y2,by simpa using y3,by omega,by omega,_,by simpa[add_add]using y1,?_⟩
  refine(Ff hi2 hne hN hO Rj E b l (by omega) (by omega) (by omega)).mono ?_
  rintro _ h5 ⟨rfl,E5⟩
  have ep:pre xs i++bitsOf (b:Int) l=pre xs (i+1):=by rw[Mu hi4,hcb]
  rw[ep]at E5
  rw[w4]
  refine⟨rfl,⟨i+1,rfl,by omega,E5⟩,?_⟩
  show xs.length-(toInt (Value.int .i64 ((i+1:Nat):Int))).toNat<xs.length-(toInt (Value.int .i64 (i:Int))).toNat
  rw[toInt_int,toInt_int];omega
 ·obtain rfl:i=xs.length:=by omega
  obtain⟨l,b,hg,hl,hb,hcb⟩:=qZ (c:=256) (by omega)
  obtain⟨y1,y2,y3⟩:=(hx3.sub s).cell hg
  have hp:2^l≤2^15:=Nat.pow_le_pow_right (by decide) hl
  have e15:2^15=32768:=by decide
  refine⟨by simpa using y3,by simp,by omega,_,by simpa[add_add]using y2,by simpa using y3,by simp,by omega,_,by simpa[add_add]using y1,?_⟩
  refine(Ff hi2 hne hN hO Rj E b l (by omega) (by omega) (by omega)).mono ?_
  rintro _ h5 ⟨rfl,E5⟩
  have ep:pre xs xs.length++bitsOf (b:Int) l=xp xs:=by rw[←Hb,hcb]
  rw[ep]at E5
  obtain⟨a6,c6,e1,e2,P6,N6,m1,m2,s6⟩:=E5
  exact⟨rfl,_,_,_,by rw[ye];simp[zd,e2],P6,fun z hz=>Mt s12 (N6 z hz),s12.trans s6⟩
end Go.Proofs.YtnhbgoiihgoneaaGreatDoor
end
section
namespace Go.Proofs.YtnhbgoiihgoneaaGreatDoor
open Go Go.Eng Go.IntWalk
section
variable {S : Shared} {h h0 : Eng.Heap} {b : Nat} {T : TypeId} {sz : Nat} {K : List Int}
def RingAt(h0 h:Eng.Heap)(b:Nat)(T:TypeId)(sz:Nat)(K:List Int):Prop:=
 ∃(d:List Int) (at_ n:Nat),h b=some (zX sz d at_ n T)∧RingS sz d at_ n K∧Eng.Sub h0 h∧h0 b=none
theorem yq{h0 h1:Eng.Heap}{b:Nat}{o:Obj}(hs:Eng.Sub h0 h1)(hb:h0 b=none):Eng.Sub h0 (upd h1 b o):=fun x u hx=>by
 rw[upd_ne (fun e=>by rw[e,hb]at hx;cases hx)];exact hs x u hx
theorem RingAt.sub(H:RingAt h0 h b T sz K):Eng.Sub h0 h:=by obtain⟨_,_,_,_,_,s,_⟩:=H;exact s
theorem RingAt.mono{h1:Eng.Heap}(H:RingAt h0 h b T sz K)(s:Eng.Sub h h1):RingAt h0 h1 b T sz K:=by
 obtain⟨d,at_,n,hb,R,s0,hn⟩:=H
 exact⟨d,at_,n,s b _ hb,R,s0.trans s,hn⟩
theorem Pq(hi:Eng.Inv S h0)(H:RingAt h0 h b T sz K)(a:Option Addr)(c:Nat)(ys:List Int)(hc:ys.length≤c)(hl:ys.length≤1099511627776)(hx:∀h':Eng.Heap,(∀y,y≠b→h' y=h y)→zj h' .u8 a ys) :
  zc Tryz.prog S j5 #[.pointer (some ⟨b,0,none⟩),.slice a ys.length c] h (fun v h'=>v=.tuple #[]∧RingAt h0 h' b T sz (yx sz (K++ys))∧∀y,y≠b→h' y=h y):=by
 obtain⟨d,at_,n,hb,R,s,hbn⟩:=id H
 have hsb:¬S b:=fun hs=>hi b hs hbn
 refine Gg (vs:=[.pointer (some ⟨b,0,none⟩),.slice a ys.length c]) ⟨rfl,rfl,trivial⟩ (hi.sub s) ?_
 simp only[Cy,Tr.wp,Ex.ev,coerce,toInt_int,zb,zf,zi,zg,zh,zB,zZ,IZ,AQ,BY,zI,arith,Cst.val,SV.den,z9,zU,zp,zO,List.getD_cons_zero,List.getD_cons_succ,List.getElem?_cons_zero,decide_eq_true_eq,decide_eq_false_iff_not,List.map_cons,List.map_nil,List.cons_append,List.nil_append,and_true,true_and]
 have hs1:=R.s1
 have hs2:=R.s2
 have w1:IntKind.i64.wrap ((ys.length:Int)-(sz:Int))=(ys.length:Int)-sz:=i64_in _ (by omega)
 refine⟨by simp,(sz:Int),by simpa[zm]using Eg hb,?_⟩
 rw[w1]
 have wm:(if(ys.length:Int)-(sz:Int)>0 then(ys.length:Int)-(sz:Int)else 0).toNat=ys.length-sz:=by split <;> omega
 obtain⟨m,hm⟩:∃m,m=ys.length-sz:=⟨_,rfl⟩
 refine⟨by split <;> omega,by split <;> omega,?_⟩
 rw[wm,←hm]
 obtain⟨zs,hz⟩:∃zs,zs=ys.drop m:=⟨_,rfl⟩
 have hzl:zs.length=ys.length-m:=by rw[hz,List.length_drop]
 have hdr:(ys.drop m).take (ys.length-m)=zs:=by rw[hz];exact List.take_of_length_le (by rw[List.length_drop];omega)
 have hK:yx sz (K++zs)=yx sz (K++ys):=by rw[hz];exact Pd (by omega)
 have cut:∀h':Eng.Heap,(∀y,y≠b→h' y=h y)→∃a',jF 1 a m ys.length c=.slice a' zs.length (c-m)∧zj h' .u8 a' zs:=fun h' hh=>by
  obtain⟨a',e,H'⟩:=BP (hx h' hh) (lo:=m) (hi:=ys.length) (m:=c) (by omega) (by omega) hc
  rw[hdr]at e H'
  exact⟨a',e,H'⟩
 refine⟨fun us h'=>∃(i:Nat) (d:List Int) (at_ n:Nat),us=[.int .i64 i]∧i≤zs.length∧h'=upd h b (zX sz d at_ n T)∧RingS sz d at_ n (yx sz (K++zs.take i)),fun us _=>zs.length-(toInt (us.getD 0 undef)).toNat,⟨0,d,at_,n,rfl,by omega,(kM hb).symm,?_⟩,?_⟩
 ·rw[List.take_zero,List.append_nil,SH (by have:=R.kn;have:=R.n1;omega)];exact R
 rintro x h' ⟨i,d,at_,n,hx1,hi2,rfl,R⟩
 obtain rfl:x=i:=by simpa using hx1
 have hb':upd h b (zX sz d at_ n T) b=some (zX sz d at_ n T):=upd_same
 obtain⟨a',ea,hz'⟩:=cut (upd h b (zX sz d at_ n T)) (fun y hy=>upd_ne hy)
 rw[ea]
 simp only[zm,Nat.add_zero,Nat.zero_add,Nat.mul_one,zf,zg,yi,Int.toNat_natCast]
 refine⟨fun hlt=>?_,fun hge=>?_⟩
 ·have hi3:i<zs.length:=by omega
  obtain⟨g1,g2⟩:=hz'.cell (List.getElem?_eq_getElem hi3)
  have ha1:=R.a1
  have hdl:=R.dl
  have hn1:=R.n1
  have w2:IntKind.i64.wrap ((i:Int)+1)=((i+1:Nat):Int):=by rw[i64_in _ (by omega)];omega
  have w3:(IntKind.i64.wrap ((at_:Int)+1)).tmod (sz:Int)=(((at_+1)%sz:Nat):Int):=by
   rw[i64_in _ (by omega),Int.tmod_eq_emod_of_nonneg (by omega)];push_cast;rfl
  have w4:(if(sz:Int)<IntKind.i64.wrap ((n:Int)+1)then(sz:Int)else IntKind.i64.wrap ((n:Int)+1))=((min (n+1) sz:Nat):Int):=by
   rw[i64_in _ (by omega)];split <;> omega
  have P:=R.push zs[i]
  rw[Bp,List.append_assoc,show zs.take i++[zs[i]]=zs.take (i+1) by rw[List.take_add_one,List.getElem?_eq_getElem hi3];rfl]at P
  have s1:=Q7 hb' (i:=at_) (by omega) zs[i]
  rw[yY]at s1
  have hb1:upd h b (zX sz (d.set at_ zs[i]) at_ n T) b=some (zX sz (d.set at_ zs[i]) at_ n T):=upd_same
  have hd1:(d.set at_ zs[i]).length=32768:=by rw[List.length_set];exact hdl
  have s2:=Pe hb1 hd1 (((at_+1)%sz:Nat):Int)
  rw[yY]at s2
  have hb2:upd h b (zX sz (d.set at_ zs[i]) (((at_+1)%sz:Nat):Int) n T) b=some (zX sz (d.set at_ zs[i]) (((at_+1)%sz:Nat):Int) n T):=upd_same
  have s3:=Q9 hb2 hd1 ((min (n+1) sz:Nat):Int)
  rw[yY]at s3
  refine⟨by simpa using g2,by omega,hlt,zs[i],by simpa[add_add]using g1,by simp,at_,GS hb' hdl,by simp,by omega,by omega,JR hb' hsb (Q6 hb' (List.getElem?_eq_getElem (by omega))),by simp,?_⟩
  rw[Int.toNat_natCast,s1]
  refine⟨at_,GS hb1 hd1,by simp,sz,Eg hb1,by simp;omega,by simp,JR hb1 hsb (GS hb1 hd1),by simp,?_⟩
  rw[w3,s2]
  refine⟨n,Mb hb2 hd1,by simp,sz,Eg hb2,by simp,JR hb2 hsb (Mb hb2 hd1),?_⟩
  rw[w2]
  rw[w4,s3]
  exact⟨⟨i+1,_,_,_,rfl,by omega,rfl,P⟩,by simp only[List.getD_cons_zero,toInt_int];omega⟩
 ·obtain rfl:i=zs.length:=by omega
  rw[List.take_length,hK]at R
  exact⟨⟨d,at_,n,upd_same,R,yq s hbn,hbn⟩,fun y hy=>upd_ne hy⟩
theorem Tm(hi:Eng.Inv S h)(a:Option Addr)(c:Nat)(ys:List Int)(hc:ys.length≤c)(hl:ys.length≤1099511627776)(hx:zj h .u8 a ys)(h1:1≤sz)(h2:sz≤32768) :
  zc Tryz.prog S BA #[.int .i64 sz,.slice a ys.length c] h (fun v h'=>∃b T,v=.pointer (some ⟨b,0,none⟩)∧RingAt h h' b T sz (yx sz ys)):=by
 refine Jh (vs:=[.int .i64 sz,.slice a ys.length c]) ⟨rfl,rfl,trivial⟩ hi ?_
 simp only[F1,Tr.wp,zG,Ex.ev,coerce,toInt_int,zf,zi,zg,zh,Cst.val,SV.den,zq,zL,zE,zo,yo,z9,List.flatMap_cons,List.flatMap_nil,List.replicate_one,List.getD_cons_zero,List.getD_cons_succ,List.map_cons,List.map_nil,List.cons_append,List.nil_append,List.append_nil,if_true]
 intro b hb
 rw[QA]
 have hbn:upd h b (zX sz (List.replicate 32768 0) 0 0 114) b=some (zX sz (List.replicate 32768 0) 0 0 114):=upd_same
 have H:RingAt h (upd h b (zX sz (List.replicate 32768 0) 0 0 114)) b 114 sz []:=⟨_,0,0,upd_same,RingS.new h1 h2,Sub.zC hb,hb⟩
 refine(Pq hi H a c ys hc hl fun h' hh=>?_).mono ?_
 ·intro i x hxi
  obtain⟨ad,e,hc⟩:=hx i x hxi
  refine⟨ad,e,?_⟩
  have hne:(ad.add i).block≠b:=fun e=>xx hc (e▸hb)
  unfold zd at hc ⊢
  rw[hh _ hne,upd_ne hne]
  exact hc
 ·rintro _ h2 ⟨rfl,H2,_⟩
  rw[List.nil_append]at H2
  exact⟨rfl,b,114,rfl,H2⟩
end
section
variable {S : Shared} {h : Eng.Heap}
def xL(d:Nat)(L:List Int):Nat→List Int
 | 0=>L
 | n+1=>xL d L n++[(xL d L n).getD ((xL d L n).length-d) 0]
theorem CO{d:Nat}{L:List Int}{n:Nat}:(xL d L n).length=L.length+n:=by
 induction n with
 | zero=>rfl
 | succ n ih=>simp only[xL,List.length_append,ih,List.length_singleton];omega
theorem Wu{h0:Eng.Heap}{b:Nat}{T:TypeId}{sz:Nat}{K:List Int}(hi:Eng.Inv S h0)(H:RingAt h0 h b T sz K)(d:Int)(h1:1≤d)(h2:d≤(K.length:Int)) :
  zc Tryz.prog S wx #[.pointer (some ⟨b,0,none⟩),.int .i64 d] h (fun v h'=>v=.int .u8 (K.getD (K.length-d.toNat) 0)∧h'=h):=by
 obtain⟨ds,at_,n,hb,R,s,hbn⟩:=id H
 refine FA (vs:=[.pointer (some ⟨b,0,none⟩),.int .i64 d]) ⟨rfl,rfl,trivial⟩ (hi.sub s) ?_
 simp only[BJ,Tr.wp,Ex.ev,coerce,toInt_int,zb,zh,zB,zZ,zI,arith,Cst.val,SV.den,z9,zp,List.getD_cons_zero,List.getD_cons_succ,decide_eq_true_eq,List.cons_append,List.nil_append,and_true]
 have hs1:=R.s1
 have hs2:=R.s2
 have ha1:=R.a1
 have hdl:=R.dl
 have hn1:=R.n1
 have hkn:=R.kn
 have w1:IntKind.i64.wrap (IntKind.i64.wrap ((at_:Int)-d)+(sz:Int))=((at_+sz-n+(n-d.toNat):Nat):Int):=by
  rw[i64_in ((at_:Int)-d) (by omega),i64_in _ (by omega)];omega
 have w2:((at_+sz-n+(n-d.toNat):Nat):Int).tmod (sz:Int)=(((at_+sz-n+(n-d.toNat))%sz:Nat):Int):=by
  rw[Int.tmod_eq_emod_of_nonneg (by omega)];push_cast;rfl
 have hlt:(at_+sz-n+(n-d.toNat))%sz<sz:=Nat.mod_lt _ (by omega)
 have hrd:=R.rd (n-d.toNat) (by omega)
 simp only[zm,Nat.add_zero,Nat.zero_add]
 refine⟨by simp,at_,GS hb hdl,by simp,sz,Eg hb,by simp,sz,Eg hb,by simp;omega,by simp,?_⟩
 rw[w1,w2]
 have hk:K[n-d.toNat]? = some K[n-d.toNat]:=List.getElem?_eq_getElem (by omega)
 rw[hk]at hrd
 rw[Int.toNat_natCast,Nat.mul_one]
 refine⟨by omega,by omega,_,Q6 hb hrd,?_⟩
 have e:K.getD (K.length-d.toNat) 0=K[n-d.toNat]:=by
  have e1:K.length-d.toNat=n-d.toNat:=by omega
  rw[List.getD_eq_getElem?_getD,e1,hk];rfl
 rw[e]
theorem Ps{sz d:Nat}{L:List Int}(h1:1≤d)(h2:d≤sz)(h3:d≤L.length):(yx sz L).getD ((yx sz L).length-d) 0=L.getD (L.length-d) 0:=by
 rw[kD,List.getD_eq_getElem?_getD,List.getD_eq_getElem?_getD]
 unfold yx
 rw[List.getElem?_drop]
 congr 2
 omega
theorem Tn{h0:Eng.Heap}{b:Nat}{T:TypeId}{sz:Nat}{L:List Int}(hi:Eng.Inv S h0)(H:RingAt h0 h b T sz (yx sz L))(d n:Int)(d1:1≤d)(d2:d≤(L.length:Int))(d3:d≤(sz:Int))(hn:0≤n∧n≤258)(hl:L.length≤32768) :
  zc Tryz.prog S qu #[.pointer (some ⟨b,0,none⟩),.int .i64 d,.int .i64 n] h (fun v h'=>tB.O h' v ((xL d.toNat L n.toNat).drop L.length)∧tB.New h0 v∧RingAt h0 h' b T sz (yx sz (xL d.toNat L n.toNat))):=by
 refine Eo (vs:=[.pointer (some ⟨b,0,none⟩),.int .i64 d,.int .i64 n]) ⟨rfl,rfl,rfl,trivial⟩ (hi.sub H.sub) ?_
 simp only[AG,Tr.wp,zG,Ex.ev,coerce,toInt_int,zb,zf,zi,zg,zB,zI,arith,Cst.val,SV.den,zq,zL,zE,zo,zn,z9,zU,List.flatMap_cons,List.flatMap_nil,List.getD_cons_zero,List.getD_cons_succ,List.getElem?_cons_zero,decide_eq_true_eq,decide_eq_false_iff_not,List.map_cons,List.map_nil,List.cons_append,List.nil_append,List.append_nil,if_true,if_false,Bool.false_eq_true]
 intro b0 hb0
 have hrb:h b≠none:=by obtain⟨_,_,_,hb,_⟩:=H;rw[hb];simp
 have hne0:b0≠b:=fun e=>hrb (e▸hb0)
 have s0:Eng.Sub h (upd h b0 (.cells (ints .u8 []) 5)):=Sub.zC hb0
 obtain⟨D,hD⟩:∃D,D=d.toNat:=⟨_,rfl⟩
 rw[←hD]
 refine⟨fun us h'=>∃(a:Option Addr) (c i:Nat),us=[.slice a i c,.int .i64 i]∧i≤n.toNat∧Part .u8 h' (.slice a i c) ((xL D L i).drop L.length)∧Eng.New h0 (.slice a i c)∧ze (.slice a i c)≠some b∧RingAt h0 h' b T sz (yx sz (xL D L i)),fun us _=>n.toNat-(toInt (us.getD 1 undef)).toNat,⟨_,_,0,rfl,by omega,?_,New.of (zN H.sub hb0),fun e=>hne0 (by cases e;rfl),H.mono s0⟩,?_⟩
 ·have e:(xL D L 0).drop L.length=[]:=by simp[xL]
  rw[e]
  exact(Own.made (k:=.u8) (b:=b0) (T:=5) (h:=h) []).part
 rintro a l c x h' ⟨a',c',i,hx1,hi2,P,N,hne,R⟩
 obtain⟨⟨rfl,rfl,rfl⟩,rfl⟩:(a=a'∧l=i∧c=c')∧x=i:=by simpa using hx1
 have hll:((xL D L l).drop L.length).length=l:=by rw[List.length_drop,CO];omega
 refine⟨fun hlt=>?_,fun hge=>?_⟩
 ·have hK:d≤((yx sz (xL D L l)).length:Int):=by rw[kD,CO];omega
  refine(Wu hi R d d1 hK).mono ?_
  rintro _ hq ⟨rfl,eq⟩
  rw[eq,←hD,Ps (by omega) (by omega) (by rw[CO];omega)]
  obtain⟨y,hy⟩:∃y,y=(xL D L l).getD ((xL D L l).length-D) 0:=⟨_,rfl⟩
  rw[←hy]
  have hrep:xL D L (l+1)=xL D L l++[y]:=by rw[xL,←hy]
  refine⟨_,rfl,fun b1 hb1=>?_⟩
  have hrb':h' b≠none:=by obtain⟨_,_,_,hb,_⟩:=R;rw[hb];simp
  have s1:Eng.Sub h' (upd h' b1 (.cells (ints .u8 [y]) 5)):=Sub.zC hb1
  have P1:=P.sub s1
  have P2:Part .u8 (upd h' b1 (.cells (ints .u8 [y]) 5)) (.slice a l c) ((xL D L l).drop L.length):=P1
  refine zJ hi (R.sub.trans s1) P2 N (ys:=[y]) zj.new (by rw[hll];simp only[List.length_singleton];omega) fun v1 h1 o1 n1 s2 keep hblk=>?_
  obtain⟨a3,c3,rfl,_,_⟩:=o1.ints
  have keep':∀x,upd h' b1 (.cells (ints .u8 [y]) 5) x≠none→ze (.slice a l c)≠some x→h1 x=upd h' b1 (.cells (ints .u8 [y]) 5) x:=keep
  have R1:RingAt h0 h1 b T sz (yx sz (xL D L l)):=by
   obtain⟨ds,at_,m,hb,RS,_,hn⟩:=R.mono s1
   refine⟨ds,at_,m,?_,RS,s2,hn⟩
   rw[keep' b (by rw[hb];simp) hne];exact hb
  have hne1:ze (.slice a3 ((xL D L l).drop L.length++[y]).length c3)≠some b:=by
   rcases hblk with e | e
   ·rw[e];exact hne
   ·intro e2
    have h3:upd h' b1 (.cells (ints .u8 [y]) 5) b=none:=e b e2
    obtain⟨_,_,_,hb,_⟩:=R.mono s1
    rw[hb]at h3;cases h3
  intro b2 hb2
  have hne2:b2≠b:=fun e=>by
   obtain⟨_,_,_,hb,_⟩:=R1
   rw[e,hb]at hb2;cases hb2
  have s3:Eng.Sub h1 (upd h1 b2 (.cells (ints .u8 [y]) 5)):=Sub.zC hb2
  refine(Pq hi (R1.mono s3) (some ⟨b2,0,none⟩) 1 [y] (Nat.le_refl _) (by simp) (fun h'' hh=>?_)).mono ?_
  ·have hk:h'' b2=(upd h1 b2 (.cells (ints .u8 [y]) 5)) b2:=hh b2 hne2
   rw[upd_same]at hk
   intro i x hxi
   refine⟨_,rfl,?_⟩
   rw[ye]
   simp only[zd,hk]
   exact Ma (sp:=[]) (xs:=[y]) hxi
  ·rintro _ h3 ⟨rfl,R3,f3⟩
   rw[Bp,←hrep]at R3
   have w4:IntKind.i64.wrap ((l:Int)+1)=((l+1:Nat):Int):=by rw[i64_in _ (by omega)];omega
   have e1:(xL D L l).drop L.length++[y]=(xL D L (l+1)).drop L.length:=by
    rw[hrep,List.drop_append_of_le_length (by rw[CO];omega)]
   have e2:((xL D L (l+1)).drop L.length).length=l+1:=by rw[List.length_drop,CO];omega
   rw[e1]at o1 n1 hne1 ⊢
   rw[w4,zg,zf,zi,e2]
   rw[e2]at o1 n1 hne1
   exact⟨rfl,⟨a3,c3,l+1,rfl,by omega,Part.keep (o1.sub s3) (fun z hz=>f3 z (fun e=>hne1 (e▸hz))),n1,hne1,R3⟩,by simp only[List.getD_cons_succ,List.getD_cons_zero,toInt_int];omega⟩
 ·obtain rfl:l=n.toNat:=by omega
  exact⟨P,N,R⟩
end
end Go.Proofs.YtnhbgoiihgoneaaGreatDoor
end
section
namespace Go.Proofs.YtnhbgoiihgoneaaGreatDoor
open Go Go.Eng Go.IntWalk
abbrev Vl:=Int×List Int×Int×Unit
variable {S : Shared} {h : Eng.Heap} {v w : Value} {x : Vl}
end Go.Proofs.YtnhbgoiihgoneaaGreatDoor
end
section
namespace Go.Proofs.YtnhbgoiihgoneaaGreatDoor
open Go Go.Eng Go.IntWalk
section
variable {S : Shared} {h h0 : Eng.Heap}
def tell(dl room:Nat)(r:Rd)(al d:List Int):Rd×List Int:=
 if r.k=0 then(if room<al.length-dl+d.length then(⟨r.i,6⟩,al)else(r,al++d))else(r,al)
def alg(r:Rd):Rd:=if r.k=0 then⟨(r.i+7)/8*8,0⟩else r
def stL(bs:List Int)(dl room:Nat):Nat→Rd→List Int→Rd×List Int
 | 0,r,al=>(r,al)
 | n+1,r,al=>if r.k=0 then stL bs dl room n (tell dl room (tk bs 8 r).1 al [(tk bs 8 r).2]).1 (tell dl room (tk bs 8 r).1 al [(tk bs 8 r).2]).2 else(r,al)
def stN(bs:List Int)(r:Rd):Int:=(tk bs 16 (alg r)).2
def stR(bs:List Int)(r:Rd):Rd:=bd ((tk bs 16 (tk bs 16 (alg r)).1).2 != 65535-stN bs r) (tk bs 16 (tk bs 16 (alg r)).1).1
def stF(bs:List Int)(dl room:Nat)(r:Rd)(al:List Int):Rd×List Int:=stL bs dl room (stN bs r).toNat (stR bs r) al
def js(s:Nat):Nat×Nat:=if s=285 then(258,0)else if s<265 then(s-254,0)else((4+(s-265)%4)*2^((s-265)/4+1)+3,(s-265)/4+1)
def qx(d:Nat):Nat×Nat:=if d<4 then(d+1,0)else((2+d%2)*2^(d/2-1)+1,d/2-1)
def cpD(al:List Int)(dist n:Nat):List Int:=(List.range n).map fun k=>al.getD (al.length-dist+k%dist) 0
def cp1(bs:List Int)(r:Rd)(s:Nat):Rd×Int:=tk bs (js s).2 r
def cp2(bs:List Int)(cd:List (Nat×Nat))(r:Rd)(s:Nat):Rd×Int:=sy bs cd (cp1 bs r s).1
def cp3(bs:List Int)(cd:List (Nat×Nat))(r:Rd)(s:Nat):Rd:=bd (decide (29<(cp2 bs cd r s).2)) (cp2 bs cd r s).1
def cp4(bs:List Int)(cd:List (Nat×Nat))(r:Rd)(s:Nat):Rd×Int:=tk bs (qx (cp2 bs cd r s).2.toNat).2 (cp3 bs cd r s)
def qS(bs:List Int)(cd:List (Nat×Nat))(r:Rd)(s:Nat):Nat:=(qx (cp2 bs cd r s).2.toNat).1+(cp4 bs cd r s).2.toNat
def A8(bs:List Int)(r:Rd)(s:Nat):Nat:=(js s).1+(cp1 bs r s).2.toNat
def cp5(bs:List Int)(cd:List (Nat×Nat))(sz:Nat)(r:Rd)(al:List Int)(s:Nat):Rd:=bd (decide (al.length<qS bs cd r s)||decide (sz<qS bs cd r s)) (cp4 bs cd r s).1
def cpF(bs:List Int)(cd:List (Nat×Nat))(dl room sz:Nat)(r:Rd)(al:List Int)(s:Nat):Rd×List Int:=
 if(cp3 bs cd r s).k≠0 then(cp3 bs cd r s,al)
 else if(cp5 bs cd sz r al s).k≠0 then(cp5 bs cd sz r al s,al)
 else tell dl room (cp5 bs cd sz r al s) al (cpD al (qS bs cd r s) (A8 bs r s))
def sy1(bs:List Int)(cd:List (Nat×Nat))(dl room sz:Nat)(r:Rd)(al:List Int)(x:Int):Rd×List Int:=
 if x<256 then tell dl room r al [x]else if 285<x then(bd true r,al)else cpF bs cd dl room sz r al x.toNat
def syF (bs : List Int) (cl cd : List (Nat × Nat)) (dl room sz : Nat) : Nat → Rd → List Int → Rd × List Int
  | 0, r, al => (r, al)
  | f + 1, r, al => if r.k = 0 then
      (if (sy bs cl r).1.k ≠ 0 ∨ (sy bs cl r).2 = 256 then ((sy bs cl r).1, al)
       else syF bs cl cd dl room sz f (sy1 bs cd dl room sz (sy bs cl r).1 al (sy bs cl r).2).1 (sy1 bs cd dl room sz (sy bs cl r).1 al (sy bs cl r).2).2)
    else (r, al)
def le2(r r':Rd):Prop:=r'.k=0→r.k=0∧r.i≤r'.i
theorem le2.refl{r:Rd}:le2 r r:=fun h=>⟨h,Int.le_refl _⟩
theorem le2.trans{a b c:Rd}(H:le2 a b)(G:le2 b c):le2 a c:=fun h=>by
 obtain⟨h1,h2⟩:=G h
 obtain⟨h3,h4⟩:=H h1
 exact⟨h3,Int.le_trans h4 h2⟩
theorem yu{bs:List Int}{n:Nat}{r:Rd}:le2 r (tk bs n r).1:=fun h=>by
 have h0:=Fa h
 refine⟨h0,?_⟩
 unfold tk at h ⊢
 rw[if_pos h0]at h ⊢
 split
 ·rename_i hgt;rw[if_pos hgt]at h;cases h
 ·simp only;omega
theorem xO{w:Bool}{r:Rd}:le2 r (bd w r):=fun h=>by
 obtain⟨h1,h2⟩:=Pn.1 h
 refine⟨h1,?_⟩
 unfold bd
 rw[if_neg (fun e=>by rw[h2]at e;cases e.2)]
 exact Int.le_refl _
theorem E7{dl room:Nat}{r:Rd}{al d:List Int}:le2 r (tell dl room r al d).1:=fun h=>by
 unfold tell at h ⊢
 split
 ·rename_i h0
  rw[if_pos h0]at h
  split
  ·rename_i hgt;rw[if_pos hgt]at h;cases h
  ·exact⟨h0,Int.le_refl _⟩
 ·rename_i h0;rw[if_neg h0]at h;exact absurd h h0
theorem Hd{bs:List Int}{dl room:Nat}{r:Rd}{al d:List Int}(H:okR bs r):okR bs (tell dl room r al d).1:=by
 unfold tell
 split
 ·split
  ·intro h;cases h
  ·exact H
 ·exact H
theorem Wv{bs:List Int}{r:Rd}(H:okR bs r):okR bs (alg r):=by
 unfold alg
 split
 ·rename_i h0
  have:=H h0
  intro _;simp only;omega
 ·exact H
theorem Mv{r:Rd}:le2 r (alg r):=fun h=>by
 unfold alg at h ⊢
 split
 ·rename_i h0;exact⟨h0,by simp only;omega⟩
 ·rename_i h0;rw[if_neg h0]at h;exact absurd h h0
theorem Ut{bs:List Int}{cs:List (Nat×Nat)}{r:Rd}(h:(sy bs cs r).1.k=0):r.k=0∧r.i+1≤(sy bs cs r).1.i:=by
 unfold sy at h ⊢
 by_cases h0:r.k=0
 ·rw[if_pos h0]at h ⊢
  refine⟨h0,?_⟩
  have hf:=By (bs:=bs) (cs:=cs) (i:=r.i.toNat)
  simp only at h ⊢
  rcases hf with hf | hf
  ·omega
  ·rcases hf.1 with e | e
   ·rw[e]at h;simp at h
   ·rw[e]at h;simp at h
 ·rw[if_neg h0]at h;exact absurd h h0
theorem He{bs:List Int}{cs:List (Nat×Nat)}{r:Rd}:le2 r (sy bs cs r).1:=fun h=>by
 have:=Ut h;exact⟨this.1,by omega⟩
theorem Ww{bs:List Int}{cd:List (Nat×Nat)}{dl room sz:Nat}{r:Rd}{al:List Int}{s:Nat}:le2 r (cpF bs cd dl room sz r al s).1:=by
 have h3:le2 r (cp3 bs cd r s):=(yu.trans He).trans xO
 have h5:le2 r (cp5 bs cd sz r al s):=h3.trans (yu.trans xO)
 unfold cpF
 split
 ·exact h3
 ·split
  ·exact h5
  ·exact h5.trans E7
theorem Wx{bs:List Int}{cd:List (Nat×Nat)}{dl room sz:Nat}{r:Rd}{al:List Int}{x:Int}:le2 r (sy1 bs cd dl room sz r al x).1:=by
 unfold sy1
 split
 ·exact E7
 ·split
  ·exact xO
  ·exact Ww
theorem Rl{bs:List Int}{dl room:Nat}:∀ {n:Nat} {r:Rd} {al:List Int},le2 r (stL bs dl room n r al).1
 | 0,r,al=>le2.refl
 | n+1,r,al=>by
  unfold stL
  split
  ·exact(yu.trans E7).trans Rl
  ·exact le2.refl
end
section
variable {S : Shared} {h h0 : Eng.Heap}
theorem Vm:∀s:Fin 286,257≤s.1→3≤(js s.1).1∧(js s.1).1≤258∧(js s.1).2≤5:=by decide +kernel
theorem Vn:∀d:Fin 30,1≤(qx d.1).1∧(qx d.1).1≤24577∧(qx d.1).2≤13:=by decide +kernel
end
section
variable {S : Shared} {h h0 : Eng.Heap}
theorem Rm{bs:List Int}{cs:List (Nat×Nat)}{r:Rd}:0≤(sy bs cs r).2∧((sy bs cs r).2=0∨(sy bs cs r).2<cs.length):=by
 have hf:=By (bs:=bs) (cs:=cs) (i:=r.i.toNat)
 unfold sy
 split
 ·simp only;omega
 ·exact⟨Int.le_refl _,.inl rfl⟩
theorem Hf{al:List Int}{dist n:Nat}:(cpD al dist n).length=n:=by simp[cpD]
theorem To{al:List Int}{dist n:Nat}:cpD al dist (n+1)=cpD al dist n++[al.getD (al.length-dist+n%dist) 0]:=by simp[cpD,List.range_succ]
theorem Kf{bs:List Int}{cl cd:List (Nat×Nat)}{dl room sz f:Nat}{r:Rd}{al:List Int}(h:r.k≠0):syF bs cl cd dl room sz f r al=(r,al):=by
 cases f with
 | zero=>rfl
 | succ f=>rw[syF,if_neg h]
theorem CodesAt.same{h':Eng.Heap}{a:Option Addr}{l c:Nat}{cs:List (Nat×Nat)}(H:CodesAt h a l cs)(hk:∀z,ze (.slice a l c)=some z→h' z=h z):CodesAt h' a l cs:=by
 obtain⟨⟨ps,h1,h2⟩,h3,h4⟩:=H
 refine⟨⟨ps,fun i p hp=>?_,h2⟩,h3,h4⟩
 obtain⟨ad,rfl,g1,g2⟩:=h1 i p hp
 have e:=hk ad.block rfl
 have blk:∀n,(ad.add n).block=ad.block:=fun n=>by unfold Addr.add;split <;> rfl
 have hh:∀n,Eng.zd h' (ad.add n)=Eng.zd h (ad.add n):=fun n=>by
  unfold Eng.zd;rw[show h' (ad.add n).block=h (ad.add n).block by rw[blk];exact e]
 exact⟨ad,rfl,(hh _).trans g1,(hh _).trans g2⟩
end
section
variable {S : Shared} {h h0 : Eng.Heap}
theorem On{bs:List Int}{cs:List (Nat×Nat)}{tot:Nat}:∀ {n:Nat} {r:Rd} {all:List Int},tot-all.length≤n→all.length≤tot→(lg bs cs tot r all).1.k=0→(lg bs cs tot r all).2.length≤tot
 | 0,r,all,hn,hl,H=>by rw[k8 (fun e=>by omega)];exact hl
 | n+1,r,all,hn,hl,H=>by
  by_cases h:r.k=0∧all.length<tot
  ·rw[GZ h]at H ⊢
   by_cases hk:(lg1 bs cs tot r all).1.k=0
   ·have:=(E4 (bs:=bs) (cs:=cs) (tot:=tot) (r:=r) (all:=all)).2.2 hk
    exact On (n:=n) (by omega) this.2 H
   ·rw[k8 (fun e=>hk e.1)]at H;exact absurd H hk
  ·rw[k8 h];exact hl
theorem Pt{bs:List Int}{r:Rd}:(yy bs r).2.1.length≤1000∧(yy bs r).2.2.length≤1000:=by
 unfold yy
 split
 ·rename_i hk
  have n1:=yD (bs:=bs) (n:=5) (r:=r)
  have n2:=yD (bs:=bs) (n:=5) (r:=jK bs r)
  have q5:(2:Int)^5=32:=by decide
  have h1:CI bs r≤288:=by unfold CI;omega
  have h2:Ha bs r≤32:=by unfold Ha;omega
  have h3:(qY bs r).2.length≤CI bs r+Ha bs r:=On (Nat.le_refl _) (by simp) hk
  simp only[List.length_take,List.length_drop]
  omega
 ·simp
theorem Ro{bs:List Int}{r:Rd}(ok:okR bs r):okR bs (yy bs r).1:=by
 have:=(Kc ok).2.2.2.2
 unfold yy
 split
 ·exact Bf this
 ·exact this
section
variable {bs : List Int} {dl room sz : Nat}
theorem Mw{cl cd:List (Nat×Nat)}:∀ {f:Nat} {r:Rd} {al:List Int},le2 r (syF bs cl cd dl room sz f r al).1
 | 0,r,al=>le2.refl
 | f+1,r,al=>by
  unfold syF
  split
  ·split
   ·exact He
   ·exact(He.trans Wx).trans Mw
  ·exact le2.refl
theorem Uu{r:Rd}:∀ {k:Nat},le2 r (sm bs r k).1
 | 0=>le2.refl
 | k+1=>Uu.trans yu
theorem XJ{r:Rd}{all:List Int}{x:Int}:le2 r (rp bs r all x).1:=by
 unfold rp
 split
 ·exact xO.trans yu
 ·split
  ·exact yu
  ·split
   ·exact yu
   ·exact le2.refl
theorem Rp{cs:List (Nat×Nat)}{tot:Nat}{r:Rd}{all:List Int}:le2 r (lg1 bs cs tot r all).1:=by
 unfold lg1
 split
 ·exact(He.trans XJ).trans xO
 ·exact He
theorem Uv{cs:List (Nat×Nat)}{tot:Nat}:∀ {n:Nat} {r:Rd} {all:List Int},tot-all.length≤n→le2 r (lg bs cs tot r all).1
 | 0,r,all,hn=>by rw[k8 (fun e=>by omega)];exact le2.refl
 | n+1,r,all,hn=>by
  by_cases h:r.k=0∧all.length<tot
  ·rw[GZ h]
   by_cases hk:(lg1 bs cs tot r all).1.k=0
   ·have:=(E4 (bs:=bs) (cs:=cs) (tot:=tot) (r:=r) (all:=all)).2.2 hk
    exact Rp.trans (Uv (n:=n) (by omega))
   ·rw[k8 (fun e=>hk e.1)];exact Rp
  ·rw[k8 h];exact le2.refl
theorem Iv{r:Rd}:le2 r (yy bs r).1:=by
 have h0:le2 r (jK bs r):=yu.trans xO
 have h1:le2 r (A0 bs r):=h0.trans (yu.trans xO)
 have h2:le2 r (kg bs r).1:=h1.trans (yu.trans Uu)
 have h3:le2 r (Jt bs r):=h2.trans xO
 have h4:le2 r (qY bs r).1:=h3.trans (Uv (Nat.le_refl _))
 unfold yy
 split
 ·exact h4.trans xO
 ·exact h4
theorem Pu{r:Rd}(h:(yy bs r).1.k=0):¬(zu (yy bs r).2.1=0∨zu (yy bs r).2.1=2)∧¬(zu (yy bs r).2.2=0∨zu (yy bs r).2.2=2):=by
 unfold yy at h ⊢
 split
 ·rename_i hk
  rw[if_pos hk]at h
  have hb:=(Pn.1 h).2
  simp only
  unfold Kb at hb
  simp only[Bool.or_eq_false_iff,Bool.not_eq_false',Bool.or_eq_true,beq_iff_eq]at hb
  omega
 ·rename_i hk
  rw[if_neg hk]at h
  exact absurd h hk
end
def qy:List Int:=List.replicate 32 5
theorem KQ:zu qy=1:=by decide +kernel
def bk1(bs:List Int)(r:Rd):Rd×Int:=tk bs 1 r
def bk2(bs:List Int)(r:Rd):Rd×Int:=tk bs 2 (bk1 bs r).1
def bk3(bs:List Int)(r:Rd):Rd:=bd ((bk2 bs r).2==3) (bk2 bs r).1
def blk(bs:List Int)(dl room sz F:Nat)(r:Rd)(al:List Int):Rd×List Int:=
 if(bk3 bs r).k≠0 then(bk3 bs r,al)
 else if(bk2 bs r).2=0 then stF bs dl room (bk3 bs r) al
 else if(bk2 bs r).2=1 then syF bs (zF yk) (zF qy) dl room sz F (bk3 bs r) al
 else if(yy bs (bk3 bs r)).1.k≠0 then((yy bs (bk3 bs r)).1,al)
 else syF bs (zF (yy bs (bk3 bs r)).2.1) (zF (yy bs (bk3 bs r)).2.2) dl room sz F (yy bs (bk3 bs r)).1 al
def blF(bs:List Int)(dl room sz F:Nat):Nat→Rd→List Int→Rd×List Int
 | 0,r,al=>(r,al)
 | f+1,r,al=>if r.k=0 then(if(bk1 bs r).2≠0 then blk bs dl room sz F r al else blF bs dl room sz F f (blk bs dl room sz F r al).1 (blk bs dl room sz F r al).2)else(r,al)
section
variable {bs : List Int} {dl room sz F : Nat} {r : Rd} {al : List Int}
theorem Ju{n:Nat}{r:Rd}(h:(tk bs n r).1.k=0):(tk bs n r).1.i=r.i+n:=by
 have h0:=Fa h
 unfold tk at h ⊢
 rw[if_pos h0]at h ⊢
 split
 ·rename_i hgt;rw[if_pos hgt]at h;cases h
 ·rfl
theorem Mx(h:(bk3 bs r).k=0):r.k=0∧r.i+3≤(bk3 bs r).i:=by
 have h3:=xO (w:=(bk2 bs r).2==3) (r:=(bk2 bs r).1) h
 have h2:=Ju (bs:=bs) (n:=2) (r:=(bk1 bs r).1) h3.1
 have h1:=Fa (bs:=bs) (n:=2) (r:=(bk1 bs r).1) h3.1
 have h0:=Ju (bs:=bs) (n:=1) (r:=r) h1
 refine⟨Fa h1,?_⟩
 have e1:(bk2 bs r).1.i=(bk1 bs r).1.i+2:=h2
 have e0:(bk1 bs r).1.i=r.i+1:=h0
 have e3:(bk2 bs r).1.i≤(bk3 bs r).i:=h3.2
 omega
theorem Wy:le2 r (stF bs dl room r al).1:=(((Mv.trans yu).trans yu).trans xO).trans Rl
theorem Rq:le2 (bk3 bs r) (blk bs dl room sz F r al).1:=by
 unfold blk
 split
 ·exact le2.refl
 ·split
  ·exact Wy
  ·split
   ·exact Mw
   ·split
    ·exact Iv
    ·exact Iv.trans Mw
theorem Vo{f:Nat}(h:r.k≠0):blF bs dl room sz F f r al=(r,al):=by
 cases f with
 | zero=>rfl
 | succ f=>rw[blF,if_neg h]
end
end
end Go.Proofs.YtnhbgoiihgoneaaGreatDoor
end
