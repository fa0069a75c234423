/-
  Component values: how large they are, and what a reading says of them. No program in sight.
-/
import Derived.Test.YtfinnnfdojhmnaaGreatDoorQ2
import Derived.Test.YtfinnnfdojhmnaaGreatDoorX
import Derived.Test.YtfinnnfdojhmnaaGreatDoorWFd
import Derived.KernelRfl
set_option linter.unusedVariables false
set_option maxRecDepth 100000
namespace Go.Proofs.YtfinnnfdojhmnaaGreatDoor
open Go Go.V Go.RowKit
def zT(x:ct):Nat:=1+(x.db.length+1)+1+(x.Unit.length+1)+1+1
mutual
def zV:ax→Nat
  | .mk t l=>zT t+(cC l+1)+1
def cC:List ax→Nat
  |[]=>0
  |v::r=>zV v+cC r
end
theorem Xi:∀l:List ax,cC l=(l.map zV).sum
  |[]=>rfl
  |y::l=>by rw[cC,Xi l];rfl
def wfT(x:ct):Prop:=(Lit.int .u8 x.an).wf=true∧x.db.length≤maxLen∧(Lit.int .i64 x.cU).wf=true∧x.Unit.length≤maxLen∧True
mutual
def LZ:ax→Prop
  | .mk t l=>wfT t∧l.length≤maxLen∧Qt l
def Qt:List ax→Prop
  |[]=>True
  |v::r=>LZ v∧Qt r
end
theorem a3c:∀l:List ax,(∀x∈l,LZ x)→Qt l
  |[],_=>trivial
  |y::l,h=>by
    rw[Qt];exact⟨h y List.mem_cons_self,a3c l λx hx=>h x (List.mem_cons_of_mem _ hx)⟩
mutual
def zX:bM→Nat
 | .mk _ p c=>1+(vY p+1)+(c.length+1)+1
def mQ:List bM→Nat
 |[]=>0
 |v::r=>zX v+mQ r
def zP:fZ→Nat
 | .mk t s=>(t.length+1)+(vZ s+1)+1
def vY:List fZ→Nat
 |[]=>0
 |v::r=>zP v+vY r
def zS:fA→Nat
 | .mk _ n _ v _ _ _ l=>1+(n.length+1)+1+(v.length+1)+1+(1+1+1)+1+(mQ l+1)+1
def vZ:List fA→Nat
 |[]=>0
 |v::r=>zS v+vZ r
end
def zD(d:cT):Nat:=(d.bm.length+1)+(cC d.Value+1)+1+1
mutual
def zC:bu→Nat
 | .mk _ n _ d l=>1+(n.length+1)+1+zD d+(tm l+1)+1
def tm:List bu→Nat
 |[]=>0
 |v::r=>zC v+tm r
end
def sa:List cT→Nat
 |[]=>0
 |v::r=>zD v+sa r
def tp(l:List a7):Nat:=(l.map λx=>x.length+1).sum+1
def jX:List (List a7)→Nat
 |[]=>0
 |v::r=>tp v+jX r
mutual
def zR:bA→Nat
 | .mk _ s d c n l=>1+(mQ s+1)+(sa d+1)+zC c+(jX n+1)+(dU l+1)+1
def dU:List bA→Nat
 |[]=>0
 |v::r=>zR v+dU r
end
def zO(s:cQ):Nat:=1+((dU s.dm.bo+1)+1)+1
def gC:List cQ→Nat
 |[]=>0
 |v::r=>zO v+gC r
theorem Xj:∀l:List bM,(l.map zX).sum+1=mQ l+1
 |[]=>by rw[mQ];rfl
 |v::r=>by have:=Xj r;rw[mQ,List.map_cons,List.sum_cons];omega
theorem a3d:∀l:List fZ,(l.map zP).sum+1=vY l+1
 |[]=>by rw[vY];rfl
 |v::r=>by have:=a3d r;rw[vY,List.map_cons,List.sum_cons];omega
theorem a3e:∀l:List fA,(l.map zS).sum+1=vZ l+1
 |[]=>by rw[vZ];rfl
 |v::r=>by have:=a3e r;rw[vZ,List.map_cons,List.sum_cons];omega
theorem a3f:∀l:List bu,(l.map zC).sum+1=tm l+1
 |[]=>by rw[tm];rfl
 |v::r=>by have:=a3f r;rw[tm,List.map_cons,List.sum_cons];omega
theorem Xk:∀l:List bA,(l.map zR).sum+1=dU l+1
 |[]=>by rw[dU];rfl
 |v::r=>by have:=Xk r;rw[dU,List.map_cons,List.sum_cons];omega
theorem a3g:∀l:List Int,(l.map λ_=>1).sum+1=l.length+1
 |[]=>rfl
 |v::r=>by have:=a3g r;rw[List.map_cons,List.sum_cons,eF];omega
theorem a3h(d:cT):(d.bm.length+1)+((d.Value.map zV).sum+1)+1+1=zD d:=by unfold zD;rw[Xi]
theorem a3i:∀l:List cT,(l.map λd=>(d.bm.length+1)+((d.Value.map zV).sum+1)+1+1).sum+1=sa l+1
 |[]=>rfl
 |v::r=>by have:=a3i r;rw[sa,List.map_cons,List.sum_cons,a3h];omega
theorem a3j:∀l:List (List a7),(l.map tp).sum+1=jX l+1
 |[]=>rfl
 |v::r=>by have:=a3j r;rw[jX,List.map_cons,List.sum_cons];omega
end Go.Proofs.YtfinnnfdojhmnaaGreatDoor
namespace Go.V
def pF(t:Int→Bool):Nat→Nat→Option Int
 |0,_=>none
 |k+1,i=>cond (t i) (some (i:Int)) (pF t k (i+1))
theorem Xl{β:Type}{i N:Int}{X Y:Option β}(hi:0≤i):cond (decide (i<N)) (aH (0≤i∧i<N) X) Y=cond (decide (i<N)) X Y:=by
 by_cases h:i<N
 ·rw[bP ⟨hi,h⟩]
 ·rw[du h];rfl
theorem Xm{β:Type}(F:Nat→Int→Option β)(t:Int→Bool)(hit:Int→β)(a3k:β)(N:Int)(n:Nat)(hN:N=n)(hn:n<4611686018427387904)
  (hF:∀kk (i:Int),0≤i→F (kk+1) i=cond (decide (i<N)) (cond (t i) (some (hit i)) (F kk (J (i+1)))) (some a3k)):
  ∀(k i kk:Nat),k=n-i→i≤n→k<kk→F kk (i:Int)=some (((pF t k i).map hit).getD a3k):=by
 subst hN;intro k
 induction k with
 |zero=>
  intro i kk hk hi hkk;obtain⟨kk,rfl⟩:∃q,kk=q+1:=⟨kk-1,by omega⟩;rw[hF kk i (by omega)];have:decide ((i:Int)<n)=false:=du (by omega);rw[this];rfl
 |succ k ih=>
  intro i kk hk hi hkk;obtain⟨kk,rfl⟩:∃q,kk=q+1:=⟨kk-1,by omega⟩;rw[hF kk i (by omega)];have:decide ((i:Int)<n)=true:=eR (by omega);rw[this,bX (by omega)];simp only[bf];rw[pF];cases t i
  ·simp only[aX];exact ih (i+1) kk (by omega) (by omega) (by omega)
  ·rfl
theorem M0(t:Int→Bool):∀(k i:Nat)(r:Int),pF t k i=some r→(i:Int)≤r∧r<(i+k:Nat)
 |0,_,_,h=>by cases h
 |k+1,i,r,h=>by
  rw[pF]at h;cases ht:t i<;>rw[ht]at h
  ·have:=M0 t k (i+1) r h;omega
  ·cases h;omega
end Go.V
namespace Go.Proofs.YtfinnnfdojhmnaaGreatDoor
open Go Go.V Go.RowKit
def aU:List eS:=(Ew 64).getD []
theorem Xn:Ew 64=some aU:=by kernel_rfl
theorem Xo:ln aU=((18:Nat):Int):=by kernel_rfl
def find(s:a7):Option Int:=pF (λi=>(gi aU i).bm==s) 18 0
def um(s:a7):Int×Int:=match find s with
 |none=>(0,6)
 |some i=>(i,0)
theorem a3l(s:a7):GV 64 s=some (um s):=by
 have h:=Xm (KO 64 aU s) (λi=>(gi aU i).bm==s) (λi=>Sum.inl i) (Sum.inr ()) (ln aU) 18 Xo (by decide)
  (λkk i hi=>by rw[KO];exact Xl hi) 18 0 64 rfl (by decide) (by decide)
 unfold GV;rw[Xn];simp only[aW];unfold OX;rw[show(0:Int)=((0:Nat):Int)from rfl,h];unfold um find;cases hf:pF (λi=>(gi aU i).bm==s) 18 0 with
 |none=>rfl
 |some r=>
  have h0:=M0 _ _ _ _ hf;have h1:decide (r<0)=false:=du (by omega);simp only[Option.map_some,Option.getD_some,aW,dk];show cond (decide (r<0)) _ _=_;rw[h1];rfl
theorem afq{s:a7}(h:(um s).2=0):0≤(um s).1∧(um s).1<ln aU:=by
 rw[Xo];unfold um find at h⊢;cases hf:pF (λi=>(gi aU i).bm==s) 18 0 with
 |none=>rw[hf]at h;cases h
 |some r=>
  have h0:=M0 _ _ _ _ hf;show 0≤r∧r<_;omega
def AG(s:a7):Bool:=decide (2<ln s)&&decide (ln s≤64)&&sub s 0 2==[45,45]
theorem a3m(s:a7):GO s=some (AG s):=by
 unfold GO zG BK;rw[show ln ([45,45]:a7)=2 from rfl,bP (λh=>⟨by decide,zi h⟩)];simp only[lt_eq,aW];congr 1;unfold AG;by_cases h2:2<ln s
 ·have:(2:Int)≤ln s:=by omega
  simp[h2,this];cases(sub s 0 2==[45,45])<;>simp
 ·simp[h2]
def CT(s:a7):Bool×Int:=cond (AG s) (true,0) (cond ((um s).2 !=0) (false,(um s).2) ((gi aU (um s).1).OJ,0))
theorem afr(s:a7):GW 64 s=some (CT s):=by
 unfold GW;rw[a3m];simp only[aW];unfold CT;cases AG s
 ·simp only[aX];rw[a3l];simp only[aW];cases h:((um s).2 !=0)
  ·simp only[aX];rw[Xn];simp only[aW];rw[bP (afq (by simpa using h))]
  ·rfl
 ·rfl
theorem M1(l:List a7)(x:a7)(h:l.length<60):yl 64 l x=some (pF (λi=>x==gi l i) l.length 0).isSome:=by
 have h1:=Xm (Ko 64 l x) (λi=>x==gi l i) (λi=>Sum.inl i) (Sum.inr ()) (ln l) l.length rfl (by omega)
  (λkk i hi=>by rw[Ko];exact Xl hi) l.length 0 64 rfl (by omega) (by omega)
 unfold yl Ot;rw[show(0:Int)=((0:Nat):Int)from rfl,h1];cases hf:pF (λi=>x==gi l i) l.length 0 with
 |none=>rfl
 |some r=>
  have h0:=M0 _ _ _ _ hf;have h2:decide (((0:Nat):Int)≤r)=true:=eR (by omega);show some (decide (((0:Nat):Int)≤r))=_;rw[h2];rfl
theorem qR(x:ax):cC x.ae+6<zV x:=by
 obtain⟨t,l⟩:=x;simp only[zV,ax.ae,zT];omega
theorem sb{x:ax}:∀{l:List ax},x∈l→zV x≤cC l
 |[],h=>by cases h
 |y::l,h=>by
  rcases List.mem_cons.1 h with rfl|h
  ·simp only[cC];omega
  ·have:=sb h;simp only[cC];omega
theorem qS:∀l:List ax,l.length≤cC l
 |[]=>cZ _
 |y::l=>by have:=qS l;have:=qR y;simp only[cC,eF];omega
theorem qT{α:Type}[Inhabited α]{l:List α}{i:Nat}(h:i<l.length):gi l (i:Int)∈l:=by rw[j6 l i h];exact List.getElem_mem h
def mT(k:Int):Int:=pT k
theorem a3n(k:Int):pB k=mT k:=by
 unfold pB mT pT;simp only[lt_eq];by_cases h2:k=2
 ·subst h2;rfl
 by_cases h19:k=19
 ·subst h19;rfl
 by_cases h21:k=21
 ·subst h21;rfl
 by_cases h23:k=23
 ·subst h23;rfl
 have b2:(k==2)=false:=by simpa using h2
 have VA:(k==19)=false:=by simpa using h19
 have Kt:(k==21)=false:=by simpa using h21
 have Nt:(k==23)=false:=by simpa using h23
 rw[b2,VA,Kt,Nt];rfl
mutual
def Qu:ax→Nat
 | .mk t l=>cond (mT t.an==0) 0 (1+mU l)
def mU:List ax→Nat
 |[]=>0
 |v::r=>max (Qu v) (mU r)
end
mutual
def M2:ax→Nat
 | .mk t l=>cond (mT t.an==0) 1 (1+jH l+1)
def jH:List ax→Nat
 |[]=>0
 |v::r=>M2 v+jH r
end
mutual
def Qv:Int→ax→Bool
 |c,.mk t l=>cond (c !=0) (t.an==c) false||cond (mT t.an==0) (decide (0<ln l)) (uo (mT t.an) l)
def uo:Int→List ax→Bool
 |_,[]=>false
 |c,v::r=>Qv c v||uo c r
end
theorem a3o(x:ax):Qu x=cond (mT x.aY.an==0) 0 (1+mU x.ae):=by obtain⟨t,l⟩:=x;rw[Qu];rfl
theorem M3(x:ax):M2 x=cond (mT x.aY.an==0) 1 (1+jH x.ae+1):=by obtain⟨t,l⟩:=x;rw[M2];rfl
theorem afs(c:Int)(x:ax):Qv c x=(cond (c !=0) (x.aY.an==c) false||cond (mT x.aY.an==0) (decide (0<ln x.ae)) (uo (mT x.aY.an) x.ae)):=by obtain⟨t,l⟩:=x;rw[Qv];rfl
theorem aft{l:List ax}{i:Nat}(h:i<l.length):mU (l.drop i)=max (Qu (gi l (i:Int))) (mU (l.drop (i+1))):=by
 rw[pq h,mU,j6 l i h]
theorem Xp{l:List ax}{i:Nat}(h:i<l.length):jH (l.drop i)=M2 (gi l (i:Int))+jH (l.drop (i+1)):=by
 rw[pq h,jH,j6 l i h]
theorem afu(c:Int){l:List ax}{i:Nat}(h:i<l.length):uo c (l.drop i)=(Qv c (gi l (i:Int))||uo c (l.drop (i+1))):=by
 rw[pq h,uo,j6 l i h]
theorem Xq(n:Nat):∀v:List ax,cC v≤n→jH v≤cC v∧mU v≤cC v:=by
 induction n with
 |zero=>
  intro v h;cases v with
  |nil=>exact⟨cZ _,cZ _⟩
  |cons x r=>have:=qR x;simp only[cC]at h;omega
 |succ n ih=>
  intro v
  induction v with
  |nil=>intro _;exact⟨cZ _,cZ _⟩
  |cons x r Fe=>
   intro h;have hk:=qR x;rw[cC]at h;have h1:=Fe (by omega);have h2:=ih x.ae (by omega);rw[jH,cC,mU,M3,a3o];cases(mT x.aY.an==0)<;>simp only[bf,aX]<;>omega
theorem afv(m:Nat)(v:List ax)(c:Int)(rec:List ax→Int→Option yi)(hl:cC v≤1048576)(hr:∀x∈v,∀c,rec x.ae c=some ⟨((mU x.ae:Nat):Int),((jH x.ae:Nat):Int),uo c x.ae⟩):
  ∀(kk i a t:Nat)(b:Bool),v.length-i<kk→i≤v.length→a≤1048577→t+jH (v.drop i)≤1048577→
   K7 m v c rec kk (i:Int) (a:Int) (t:Int) b=some (((max a (mU (v.drop i)):Nat):Int),((t+jH (v.drop i):Nat):Int),b||uo c (v.drop i)):=by
 have hlen:=qS v;intro kk
 induction kk with
 |zero=>intro i a t b h;omega
 |succ kk ih=>
  intro i a t b h hi ha xz;rw[K7];by_cases h1:i<v.length
  ·have hm:=qT h1;have hz:=sb hm;have hk:=qR (gi v (i:Int));have ajO:=Xq _ (gi v (i:Int)).ae (cZ _);rw[Xp h1,M3]at xz;rw[ie h1,bf,fy h1,lt_eq,lt_eq,afu c h1,afs,aft h1,a3o,Xp h1,M3,a3n,hr _ hm];have wi:J ((i:Int)+1)=((i+1:Nat):Int):=bX (by omega);have ajP:t+1≤1048577:=by
    cases hq:(mT (gi v (i:Int)).aY.an==0)<;>rw[hq]at xz<;>simp only[bf,aX]at xz<;>omega
   have w1:J ((t:Int)+1)=((t+1:Nat):Int):=bX (by omega);unfold bne;cases hc:(mT (gi v (i:Int)).aY.an==0)
   ·rw[hc]at xz;simp only[aX]at xz;have w2:J (((mU (gi v (i:Int)).ae:Nat):Int)+1)=((mU (gi v (i:Int)).ae+1:Nat):Int):=bX (by omega);have w3:J (J (J ((t:Int)+1)+((jH (gi v (i:Int)).ae:Nat):Int))+1)=((t+(1+jH (gi v (i:Int)).ae+1):Nat):Int):=by
     rw[w1,nB (x:=((t+1:Nat):Int)+_) (by omega) (by omega),nB (by omega) (by omega)];omega
    have e:(if(a:Int)<((mU (gi v (i:Int)).ae+1:Nat):Int)then((mU (gi v (i:Int)).ae+1:Nat):Int)else(a:Int))=((max a (1+mU (gi v (i:Int)).ae):Nat):Int):=by split<;>omega
    have Xr:=λb=>ih (i+1) (max a (1+mU (gi v (i:Int)).ae)) (t+(1+jH (gi v (i:Int)).ae+1)) b (by omega) (by omega) (by omega) (by omega);cases hz:(c==0)<;>cases hk:((gi v (i:Int)).aY.an==c)<;>cases hs:uo (mT (gi v (i:Int)).aY.an) (gi v (i:Int)).ae<;>cases b<;>
     simp only[vc,oF,bf,aX,aW,lt_eq,Je,Bool.true_or,Bool.or_false,Bool.or_true,w2,w3,wi,e,Xr]<;>simp only[Nat.max_assoc,Nat.add_assoc]
   ·rw[hc]at xz;simp only[bf]at xz;have Xr:=λb=>ih (i+1) a (t+1) b (by omega) (by omega) (by omega) (by omega);cases hz:(c==0)<;>cases hk:((gi v (i:Int)).aY.an==c)<;>cases hs:decide (0<ln (gi v (i:Int)).ae)<;>cases b<;>
     simp only[vc,oF,bf,aX,aW,lt_eq,Je,Bool.true_or,Bool.or_false,Bool.or_true,w1,wi,Xr]<;>simp only[Nat.zero_max,Nat.add_assoc]
  ·rw[gJ (by omega),aX,zh (by omega),uo,mU,jH,Bool.or_false,Nat.max_zero,Nat.add_zero]
theorem a3p(m:Nat)(hm:1048577<m):∀(k:Nat)(v:List ax)(c:Int),cC v<k→cC v≤1048576→E7 m k v c=some ⟨((mU v:Nat):Int),((jH v:Nat):Int),uo c v⟩:=by
 intro k
 induction k with
 |zero=>intro v c h;omega
 |succ k ih=>
  intro v c h hb;have hl:=qS v;have hk:=(Xq _ v (cZ _)).1;have hn:=afv m v c (E7 m k) hb (λx hx c=>by
   have h1:=sb hx;have h2:=qR x;exact ih _ _ (by omega) (by omega)) m 0 0 0 false (by omega) (by omega) (by omega) (by rw[o5];omega)
  rw[E7];rw[show(0:Int)=((0:Nat):Int)from rfl,hn,aW,o5,Nat.zero_max,Nat.zero_add,Je]
def Ff(v:List ax):Int:=if 16<mU v then 20 else if 1500<jH v then 4 else if uo 0 v then 8 else 0
theorem Qw(m:Nat)(hm:1048577<m)(v:List ax)(hb:cC v≤1048576):BJ m v=some (Ff v):=by
 unfold BJ Ka Ff;rw[a3p m hm m v 0 (by omega) hb,aW];have e1:decide ((16:Int)<((mU v:Nat):Int))=decide (16<mU v):=by simp;omega
 have e2:decide ((1500:Int)<((jH v:Nat):Int))=decide (1500<jH v):=by simp;omega
 show cond (decide ((16:Int)<((mU v:Nat):Int))) _ _=_;rw[e1,e2];by_cases h1:16<mU v
 ·simp[h1]
 ·by_cases h2:1500<jH v
  ·simp[h1,h2]
  ·cases uo 0 v<;>simp[h1,h2]
theorem afw(m:Nat)(v:List ax)(rec:List ax→Option (List ax))(hl:cC v≤1048576)(hr:∀x∈v,rec x.ae=some x.ae):
  ∀(kk i:Nat),v.length-i<kk→i≤v.length→Lj m v rec kk (v.take i) (i:Int)=some v:=by
 have hlen:=qS v;intro kk
 induction kk with
 |zero=>intro i h;omega
 |succ kk ih=>
  intro i h hi;rw[Lj];by_cases h1:i<v.length
  ·rw[ie h1,bf,fy h1,hr _ (qT h1),aW,bP (by unfold ln;rw[List.length_take];simp only[eF,fY];omega),lt_eq,bX (by omega)];have e:v.take i++[ax.mk (gi v (i:Int)).aY (gi v (i:Int)).ae]=v.take (i+1):=by
    rw[List.take_succ_eq_append_getElem h1,j6 v i h1];obtain⟨t,l⟩:=v[i];rfl
   rw[e];exact ih (i+1) (by omega) (by omega)
  ·rw[gJ (by omega),aX,List.take_of_length_le (by omega)]
theorem afx(m:Nat)(hm:1048577<m):∀(k:Nat)(v:List ax),cC v<k→cC v≤1048576→EK m k v=some v:=by
 intro k
 induction k with
 |zero=>intro v h;omega
 |succ k ih=>
  intro v h hb;have hl:=qS v;have hn:=afw m v (EK m k) hb (λx hx=>by
   have h1:=sb hx;have h2:=qR x;exact ih _ (by omega) (by omega)) m 0 (by omega) (by omega)
  rw[List.take_zero]at hn;rw[EK];rw[show(0:Int)=((0:Nat):Int)from rfl,hn,aW]
abbrev FU:Nat:=1100000
theorem Xs:1048577<FU:=by decide
def jY:a7:=[109,97,114,103,105,110]
def yK(w:a7):Bool:=cond (w==[98,111,114,100,101,114]) true (cond (w==[111,117,116,108,105,110,101]) true (w==[98,97,99,107,103,114,111,117,110,100]))
def Qx:List a7:=[[109,97,114,103,105,110,45,116,111,112],[109,97,114,103,105,110,45,114,105,103,104,116],[109,97,114,103,105,110,45,98,111,116,116,111,109],[109,97,114,103,105,110,45,108,101,102,116]]
def lQ(w:a7):List a7×Int:=cond (w==jY) (Qx,0) (cond (yK w) ([w++[45,99,111,108,111,114]],0) (cond ((CT w).2 !=0) ([],6) ([w],0)))
theorem afy(w:a7):(CT w).2=0∨(CT w).2=6:=by
 unfold CT;cases AG w
 ·rw[aX];unfold um;cases find w with
  |none=>exact Or.inr rfl
  |some r=>exact Or.inl rfl
 ·exact Or.inl rfl
theorem Xt(a b c d x:a7):(pF (λi=>x==gi [a,b,c,d] i) 4 0).isSome=cond (x==a) true (cond (x==b) true (cond (x==c) true (x==d))):=by
 simp only[pF];rw[show gi [a,b,c,d] ((0:Nat):Int)=a from rfl,show gi [a,b,c,d] ((0+1:Nat):Int)=b from rfl,show gi [a,b,c,d] ((0+1+1:Nat):Int)=c from rfl,show gi [a,b,c,d] ((0+1+1+1:Nat):Int)=d from rfl];cases(x==a)<;>cases(x==b)<;>cases(x==c)<;>cases(x==d)<;>rfl
theorem afz(w:a7)(hw:w.length≤1048576):KP 64 w=some (lQ w):=by
 unfold KP BT lQ;rw[lt_eq,M1 A2 w (by decide),aW];rw[show(pF (λi=>w==gi A2 i) A2.length 0).isSome=cond (w==jY) true (yK w)from Xt _ _ _ _ w];cases hm:(w==jY)
 ·rw[aX,lt_eq];cases hs:yK w
  ·rw[vc,bf,aW,aX];show Option.bind (GW 64 w) _=_;rw[afr,aW];rcases afy w with h|h<;>rw[h]<;>rfl
  ·rw[oF,aX,show(!(w==([109,97,114,103,105,110]:a7)))=true from by rw[show(w==([109,97,114,103,105,110]:a7))=false from hm];rfl,bf,bP (by unfold ln;simp only[eF,fY];omega),aW];rfl
 ·have e:w=jY:=eq_of_beq hm;subst e;rw[show KE 64 jY 64 [] 0=some Qx from by kernel_rfl];rfl
theorem afA(w:a7):(lQ w).1.length≤4:=by
 unfold lQ;cases(w==jY)<;>cases yK w<;>cases((CT w).2 !=0)<;>exact Nat.le_of_ble_eq_true rfl
theorem afB{s:a7}{i:Nat}(h:i<s.length):s.drop i=s[i]::s.drop (i+1):=pq h
theorem a3q{p:Nat→Bool}{k n:Nat}(h:((List.range k).all p)=true)(hn:n<k):p n=true:=List.all_eq_true.1 h n (List.mem_range.2 hn)
theorem afC{s:a7}{i:Nat}(h:i<s.length):sub s (i:Int) ((i+1:Nat):Int)=[s[i]]:=by
  unfold sub;rw[Int.toNat_natCast,Int.toNat_natCast,show i+1-i=1 from by omega,afB h];rfl
abbrev AH(x:cV):Prop:=(Lit.int .u8 x.jC).wf=true∧(Lit.int .u8 x.jD).wf=true∧(Lit.int .u8 x.jE).wf=true∧(Lit.int .u8 x.jF).wf=true
def c0:cV:=cV.mk 0 0 0 0
theorem afD(x:ax):x.aY.db.length≤zV x∧x.aY.Unit.length≤zV x:=by
  obtain⟨t,l⟩:=x;simp only[zV,zT,ax.aY];omega
theorem afE(m:Nat)(s:a7)(hs:s.length≤1048576):∀(kk i:Nat)(b:List Int),s.length-i<kk→i≤s.length→∃r,KT m s kk (i:Int) b=some r:=by
  intro kk
  induction kk with
  |zero=>intro i b h;omega
  |succ kk ih=>
    intro i b h hi;have hl:(bG s).length=s.length:=by simp[bG]
    rw[KT];by_cases h1:i<s.length
    · rw[ie (by rw[hl];exact h1),bf,fy (by rw[hl];exact h1),lt_eq,bX (by omega)];cases(cond (decide (65≤gi b (i:Int))) (decide (gi b (i:Int)≤90)) false)
      · exact ih (i+1) _ (by omega) (by omega)
      · exact ih (i+1) _ (by omega) (by omega)
    · rw[gJ (by rw[hl];omega),aX];exact⟨_,rfl⟩
theorem Qy(s:a7)(hs:s.length≤1048576):∃r,C4 FU s=some r:=by
  obtain⟨r,h⟩:=afE FU s hs FU 0 (bG s) (by unfold FU;omega) (iv _);exact⟨jx r,by unfold C4;rw[show(0:Int)=((0:Nat):Int)from rfl,h];rfl⟩
theorem CU(x:Int):(Lit.int .u8 (cW x)).wf=true:=by
  have h1:0≤cW x∧cW x<256:=by rw[a0g];omega
  have h2:IntKind.u8.min=0:=by decide
  have h3:IntKind.u8.max=255:=by decide
  simp only[Lit.wf,h2,h3,Bool.and_eq_true,decide_eq_true_eq];omega
def Xu(c:cV):Bool:=(Lit.int .u8 c.jC).wf&&(Lit.int .u8 c.jD).wf&&(Lit.int .u8 c.jE).wf&&(Lit.int .u8 c.jF).wf
theorem a3r{c:cV}(h:Xu c=true):AH c:=by
  unfold Xu at h;simp only[Bool.and_eq_true]at h;exact⟨h.1.1.1,h.1.1.2,h.1.2,h.2⟩
theorem Io:AH c0:=a3r (by decide)
theorem afF:((List.range 9).all λ(n:Nat)=>Xu (cV.mk (gi ([0,255,255,0,0,255,128,0,0]:List Int) (n:Int)) (gi ([0,255,0,255,0,255,128,0,0]:List Int) (n:Int)) (gi ([0,255,0,0,255,0,128,0,0]:List Int) (n:Int)) (gi ([255,255,255,255,255,255,255,0,0]:List Int) (n:Int))))=true:=by kernel_rfl
theorem afG(s:a7)(hs:s.length≤1048576):∃c e,KU FU s=some (c,e)∧AH c:=by
  obtain⟨y,hy⟩:=Qy s hs;unfold KU;rw[hy];simp only[lt_eq,aW];have hk:=Nb ([[98,108,97,99,107],[119,104,105,116,101],[114,101,100],[108,105,109,101],[98,108,117,101],[121,101,108,108,111,119],[103,114,97,121],[116,114,97,110,115,112,97,114,101,110,116]]:List a7) y;unfold re;generalize kx ([[98,108,97,99,107],[119,104,105,116,101],[114,101,100],[108,105,109,101],[98,108,117,101],[121,101,108,108,111,119],[103,114,97,121],[116,114,97,110,115,112,97,114,101,110,116]]:List a7) y=n at*;have hn:n<9:=by simp only[eF,fY]at hk;omega
  have hw:=a3r (a3q afF hn);cases(!(decide ((n:Int)<8)))
  · exact⟨_,_,rfl,hw⟩
  · exact⟨_,_,rfl,Io⟩
/-! ## Hashes -/
def CV(n:Int):Bool:=cond (cond (cond (decide (n<48)) true (decide (57<n))) (cond (decide (n<97)) true (decide (102<n))) false) (cond (decide (n<65)) true (decide (70<n))) false
def Qz(n:Int):Option Int:=cond (cond (n==95) ((16:Int)==0) false) none (cond (cond (decide (48≤n)) (decide (n≤57)) false) (some (cW (n-48))) (cond (cond (decide (97≤iH n)) (decide (iH n≤122)) false) (some (cW (cW (iH n-97)+10))) none))
theorem afH:((List.range 256).all λ(n:Nat)=>CV (n:Int)||(match Qz (n:Int)with
    |some d=>decide (0≤d)&&decide (d<16)
    |none=>false))=true:=by kernel_rfl
theorem afI{n:Nat}(hn:n<256)(h:CV (n:Int)=false):∃d:Nat,d<16∧Qz (n:Int)=some (d:Int):=by
  have h1:=a3q afH hn;rw[h,Je]at h1;cases hv:Qz (n:Int)with
  |none=>rw[hv]at h1;cases h1
  |some d=>
    rw[hv]at h1;simp only[Bool.and_eq_true,decide_eq_true_eq]at h1;exact⟨d.toNat,by omega,by rw[show((d.toNat:Nat):Int)=d from by omega]⟩
theorem afJ(m:Nat)(z:a7)(hl:z.length=8)(hz:∀b∈z,CV (b.toNat:Int)=false):∀(kk i v:Nat),8-i<kk→i≤8→v<16^i→
    ∃v':Int,Ez m 16 (z,16) 1152921504606846976 4294967296 kk false (v:Int) (i:Int)=some (.inr (false,v')):=by
  intro kk
  induction kk with
  |zero=>intro i v h;omega
  |succ kk ih=>
    intro i v h hi hv;rw[Ez];have dX:(bG z).length=8:=by unfold bG;rw[List.length_map,hl]
    by_cases h1:i<8
    · have IR:i<z.length:=by omega
      have hg:gi (bG z) (i:Int)=((z[i].toNat:Nat):Int):=by
        rw[j6 _ i (by omega)];unfold bG;rw[List.getElem_map]
      obtain⟨d,hdi,AJ⟩:=afI z[i].toNat_lt (hz _ (List.getElem_mem IR));generalize((z[i].toNat:Nat):Int)=c at*;have e8:16^8=4294967296:=by decide
      have hp:16^(i+1)≤16^8:=Nat.pow_le_pow_right (by decide) (by omega);have hp1:16^(i+1)=16^i*16:=Nat.pow_succ ..;have hv2:16*v+d<16^(i+1):=by omega
      rw[show decide ((i:Int)<ln (bG z))=true from ie (by omega),bf,fy (by omega:i<(bG z).length)];show∃v':Int,Option.bind (Option.bind (lt (cond (gi (bG z) (i:Int)==95) ((16:Int)==0) false) _) _) _=_;rw[hg,lt_eq];have J6:(cond (cond (c==95) ((16:Int)==0) false) (Option.bind (some (Sum.inr (true,(v:Int)))) λP2=>some (Sum.inl P2)) (
          lt (cond (decide (48≤c)) (decide (c≤57)) false) λP3=>
          cond P3 (some (Sum.inr (false,cW (c-48)))) (
          lt (decide (97≤iH c)) λzU=>
          lt (cond zU (decide (iH c≤122)) false) λP5=>
          cond P5 (lt (cW (iH c-97)) λKX=>some (Sum.inr (false,cW (KX+10)))) none)):Option (Sum (Sum (Sum Int (Bool×Int)) (Bool×Int)) (Bool×Int)))=some (.inr (false,(d:Int))):=by
        simp only[lt_eq];unfold Qz at AJ
        revert AJ
        generalize(cond (c==95) ((16:Int)==0) false)=b1;generalize(cond (decide (48≤c)) (decide (c≤57)) false)=b2;generalize(cond (decide (97≤iH c)) (decide (iH c≤122)) false)=b3;intro AJ;cases b1
        · cases b2
          · cases b3
            · cases AJ
            · have:=Option.some.inj AJ;simp only[aX,bf,this]
          · have:=Option.some.inj AJ;simp only[aX,bf,this]
        · cases AJ
      rw[J6,aW];have c1:decide ((16:Int)≤(d:Int))=false:=du (by omega);have c2:decide ((1152921504606846976:Int)≤(v:Int))=false:=du (by omega);have w1:cF ((v:Int)*cF 16)=((16*v:Nat):Int):=by rw[show cF 16=16 from rfl,B9 (by omega) (by omega)];omega
      have w2:cF (((16*v:Nat):Int)+cF (d:Int))=((16*v+d:Nat):Int):=by rw[B9 (x:=(d:Int)) (by omega) (by omega),B9 (by omega) (by omega)];omega
      show∃v':Int,Option.bind (cond (decide (cW 16≤(d:Int))) none (cond (decide ((1152921504606846976:Int)≤(v:Int))) none _)) _=_;rw[show cW 16=16 from rfl,c1,aX,c2,aX];show∃v':Int,Option.bind (lt (cF (cF ((v:Int)*cF 16)+cF (d:Int))) _) _=_;rw[w1,w2,lt_eq,du (show¬((16*v+d:Nat):Int)<((16*v:Nat):Int)from by omega),lt_eq];show∃v':Int,Option.bind (lt (decide (cF ((4294967296:Int)-1)<((16*v+d:Nat):Int))) _) _=_;rw[show cF ((4294967296:Int)-1)=4294967295 from rfl,du (by omega),lt_eq,aX,aW,bX (by omega)];exact ih (i+1) (16*v+d) (by omega) (by omega) hv2
    · have hi8:i=8:=by omega
      subst hi8;rw[show decide (((8:Nat):Int)<ln (bG z))=false from gJ (by omega),aX];exact⟨_,rfl⟩
theorem afK(z:a7)(hl:z.length=8)(hz:∀b∈z,CV (b.toNat:Int)=false):∃n,EC FU z 16 32=some n:=by
  obtain⟨v',h⟩:=afJ FU z hl hz FU 0 0 (by decide) (by decide) (by decide);have iJ:(z==[])=false:=by
    cases z with
    |nil=>cases hl
    |cons d r=>rfl
  unfold EC P6;rw[iJ,aX];show∃n,Option.bind (Option.bind (Ez FU 16 (z,16) 1152921504606846976 4294967296 FU false 0 0) _) _=_;rw[show Ez FU 16 (z,16) 1152921504606846976 4294967296 FU false 0 0=_ from h];exact⟨_,rfl⟩
theorem afL(m:Nat)(s:a7)(hs:s.length≤10):∀(kk i:Nat)(a:a7),s.length-i<kk→i≤s.length→a.length≤2*i→∃r,H0 m s kk a (i:Int)=some r∧r.length≤2*s.length:=by
  intro kk
  induction kk with
  |zero=>intro i a h;omega
  |succ kk ih=>
    intro i a h hi ha;rw[H0];by_cases h1:i<s.length
    · rw[ie h1,bf,bX (by omega),bP ⟨by omega,by omega,by unfold ln;omega⟩,afC h1,bP (by unfold ln;simp),lt_eq,bP (by unfold ln;simp only[eU,eF,fY];omega)];exact ih (i+1) _ (by omega) (by omega) (by simp only[eU,eF,fY];omega)
    · rw[gJ (by omega),aX];exact⟨_,rfl,by omega⟩
theorem afM(m:Nat)(z:a7)(hs:z.length≤10):∀(kk i:Nat),z.length-i<kk→i≤z.length→(∀b∈z.take i,CV (b.toNat:Int)=false)→
    uh m z kk (i:Int)=some (.inl (c0,false))∨(uh m z kk (i:Int)=some (.inr ())∧∀b∈z,CV (b.toNat:Int)=false):=by
  intro kk
  induction kk with
  |zero=>intro i h;omega
  |succ kk ih=>
    intro i h hi ht;by_cases h1:i<z.length
    · have e:uh m z (kk+1) (i:Int)=cond (CV ((z[i].toNat:Nat):Int)) (some (.inl (c0,false))) (uh m z kk ((i+1:Nat):Int)):=by
        rw[uh,ie h1,bf,fy h1,a6r z i h1,lt_eq,lt_eq,lt_eq,bX (by omega)];rfl
      rw[e];cases hh:CV ((z[i].toNat:Nat):Int)
      · refine ih (i+1) (by omega) (by omega) λb hb=>?_;rw[List.take_succ_eq_append_getElem h1]at hb;rcases List.mem_append.1 hb with hb|hb
        · exact ht b hb
        · rw[List.mem_singleton.1 hb];exact hh
      · exact Or.inl rfl
    · rw[uh,gJ (by omega),aX];rw[List.take_of_length_le (by omega)]at ht;exact Or.inr ⟨rfl,ht⟩
theorem afN(s:a7)(hs:s.length≤1048570):∃c b,KZ FU s=some (c,b)∧AH c:=by
  have key:∀z:a7,z.length≤1048576→∃c b,(cond (ln z !=8) (some (cV.mk 0 0 0 0,false)) (
      Option.bind (uh FU z FU 0) λ(z51:Sum (cV×Bool) Unit)=>dk z51 λL0=>
      Option.bind (EC FU z 16 32) λeX=>
      some (cV.mk (cW (Int.fdiv eX (2^24))) (cW (Int.fdiv eX (2^16))) (cW (Int.fdiv eX (2^8))) (cW eX),true)):Option (cV×Bool))=some (c,b)∧AH c:=by
    intro z hz;by_cases h8:ln z=8
    · rw[h8,bne_self_eq_false,aX];have hl:z.length=8:=by unfold ln at h8;omega
      rcases afM FU z (by omega) FU 0 (by unfold FU;omega) (iv _) (λ_ h=>by cases h)with h|⟨h,za⟩
      · rw[show uh FU z FU 0=_ from h];exact⟨_,_,rfl,Io⟩
      · rw[show uh FU z FU 0=_ from h];obtain⟨n,hn⟩:=afK z hl za;rw[hn];exact⟨_,_,rfl,CU _,CU _,CU _,CU _⟩
    · rw[show(ln z !=8)=true from bne_iff_ne.2 h8];exact⟨_,_,rfl,Io⟩
  have k2:∀z:a7,z.length≤1048570→∃c b,(Option.bind (cond (ln z==6) (aH (ln z+ln ([102,102]:a7)≤9223372036854775807) (some (z++[102,102]))) (some z)) λ(dQ:a7)=>
      cond (ln dQ !=8) (some (cV.mk 0 0 0 0,false)) (
      Option.bind (uh FU dQ FU 0) λ(z51:Sum (cV×Bool) Unit)=>dk z51 λL0=>
      Option.bind (EC FU dQ 16 32) λeX=>
      some (cV.mk (cW (Int.fdiv eX (2^24))) (cW (Int.fdiv eX (2^16))) (cW (Int.fdiv eX (2^8))) (cW eX),true)):Option (cV×Bool))=some (c,b)∧AH c:=by
    intro z hz;cases(ln z==6)
    · rw[aX,aW];exact key z (by omega)
    · rw[bf,bP (by unfold ln;simp only[eF,fY];omega),aW];exact key _ (by simp only[eU,eF,fY];omega)
  unfold KZ;by_cases QA:ln s=3∨ln s=4
  · have hl:s.length≤10:=by unfold ln at QA;omega
    have hc:cond (ln s==3) true (ln s==4)=true:=by
      rcases QA with h|h<;>rw[h]<;>rfl
    obtain⟨r,hr,hrl⟩:=afL FU s hl FU 0 [] (by unfold FU;omega) (iv _) (iv _);rw[hc,bf,show H0 FU s FU [] 0=_ from hr,aW,aW];exact k2 r (by omega)
  · have hc:cond (ln s==3) true (ln s==4)=false:=by
      rw[show(ln s==3)=false from vb.2 (λh=>QA (Or.inl h)),show(ln s==4)=false from vb.2 (λh=>QA (Or.inr h))];rfl
    rw[hc,aX,aW];exact k2 s hs
/-! ## Functions -/
def cn(s:a7):Nat:=s.countP λb=>b==110
theorem a3s(a:a7)(b:UInt8):cn (a++[b])=cn a+cond (b==110) 1 0:=by
  unfold cn;rw[List.countP_append];cases h:(b==110)<;>simp[h]
theorem afO(t:ct)(u:a7)(l:List Int)(hu:u.length≤1048576)(hl:l.length=cn u):∃u' l',L1 t u l=some (u',l')∧u'.length≤u.length+1∧l'.length=cn u':=by
  have hcu:cn u≤u.length:=List.countP_le_length;have ap:∀b:UInt8,(u++[b]).length≤u.length+1:=λb=>by simp
  have no:∀b:UInt8,(b==110)=false→l.length=cn (u++[b]):=λb h=>by rw[a3s,h,hl];rfl
  unfold L1;have ck:∀{α:Type}(b:α),ln u+ln [b]≤9223372036854775807:=λb=>by unfold ln;simp only[eF,fY];omega
  cases(t.an==13)
  · rw[aX];cases(t.an==10)
    · rw[aX];cases(t.an==18)
      · rw[aX,lt_eq];cases(cond (t.an==9) (t.db==[47]) false)
        · rw[aX,bP (ck _)];exact⟨_,_,rfl,ap _,no 120 rfl⟩
        · rw[bf,bP (ck _)];exact⟨_,_,rfl,ap _,no 47 rfl⟩
      · rw[bf,bP (ck _)];exact⟨_,_,rfl,ap _,no 44 rfl⟩
    · rw[bf,bP (ck _),bP (by unfold ln;simp only[eF,fY];omega),lt_eq];refine⟨_,_,rfl,ap _,?_⟩;rw[a3s,eU,hl];rfl
  · exact⟨_,_,rfl,by omega,hl⟩
theorem afP(m:Nat)(l:List ax)(hl:l.length≤1048576):∀(kk i:Nat)(ns:List Int)(u:a7),l.length-i<kk→i≤l.length→u.length≤i→ns.length=cn u→
    ∃u' ns',Ha m l kk (i:Int) ns u=some (u',ns')∧ns'.length=cn u':=by
  intro kk
  induction kk with
  |zero=>intro i ns u h;omega
  |succ kk ih=>
    intro i ns u h hi hu hn;rw[Ha];by_cases h1:i<l.length
    · obtain⟨u',l',e1,e2,e3⟩:=afO (gi l (i:Int)).aY u ns (by omega) hn;rw[ie h1,bf,fy h1,e1,aW,bX (by omega)];exact ih (i+1) l' u' (by omega) (by omega) (by omega) e3
    · rw[gJ (by omega),aX];exact⟨_,_,rfl,hn⟩
theorem Xv(u:List Int)(i:Nat)(hi:i<u.length):∃x,ui (i:Int) u=some (cW x):=by
  unfold ui;rw[fy hi,lt_eq];exact⟨_,rfl⟩
theorem afQ(l:List ax)(hl:l.length≤1048576):∃c b,L2 FU l=some (c,b)∧AH c:=by
  obtain⟨u,ns,h1,h2⟩:=afP FU l hl FU 0 [] [] (by unfold FU;omega) (iv _) (iv _) rfl;have fin:∀q:List Int,q.length=4→∃c b,(Option.bind (ui 0 q) λxj=>
      Option.bind (ui 1 q) λxk=>
      Option.bind (ui 2 q) λxl=>
      aH (0≤(3:Int)∧(3:Int)<ln q)<|
      lt (if(gi q (3:Int))<1000 then(gi q (3:Int))else 1000) λqi=>
      lt (J (Int.tdiv (J ((if 0<qi then qi else 0)*255)) 1000)) λyA=>
      some (cV.mk xj xk xl (cW yA),true))=some (c,b)∧AH c:=by
    intro q hq;obtain⟨a,ha⟩:=Xv q 0 (by omega);obtain⟨b,hb⟩:=Xv q 1 (by omega);obtain⟨c,hc⟩:=Xv q 2 (by omega);rw[show ui 0 q=_ from ha,aW,show ui 1 q=_ from hb,aW,show ui 2 q=_ from hc,aW,bP ⟨by decide,by unfold ln;omega⟩,lt_eq,lt_eq];exact⟨_,_,rfl,CU _,CU _,CU _,CU _⟩
  have e0:∀w:a7,(u==w)=true→ns.length=cn w:=λw h=>by rw[←eq_of_beq h];exact h2
  unfold L2;rw[show Ha FU l FU 0 [] []=_ from h1,aW];dsimp only;have three:(cond (u==[110,110,110]) (some (u==[110,110,110])) (some (u==[110,44,110,44,110])):Option Bool)=some (u==[110,110,110]||u==[110,44,110,44,110]):=by
    cases(u==[110,110,110])<;>rfl
  have four:(cond (u==[110,110,110,47,110]) (some (u==[110,110,110,47,110])) (lt (u==[110,44,110,44,110,44,110]) λrS=>some rS):Option Bool)=some (u==[110,110,110,47,110]||u==[110,44,110,44,110,44,110]):=by
    rw[lt_eq];cases(u==[110,110,110,47,110])<;>rfl
  rw[three,aW,four];cases h3:(u==[110,110,110]||u==[110,44,110,44,110])
  · rw[aX,aW];cases h4:(u==[110,110,110,47,110]||u==[110,44,110,44,110,44,110])
    · exact⟨_,_,rfl,Io⟩
    · rw[bf,aW];refine fin ns ?_;rcases Bool.or_eq_true _ _|>.mp h4 with h|h
      · exact e0 _ h
      · exact e0 _ h
  · have hl3:ns.length=3:=by
      rcases Bool.or_eq_true _ _|>.mp h3 with h|h
      · exact e0 _ h
      · exact e0 _ h
    rw[bf,bP (by unfold ln;simp only[eF,fY];omega),lt_eq,aW];exact fin (ns++[1000]) (by simp only[eU,eF,fY];omega)
theorem afR(v:ax)(hv:zV v≤1048576):∃c b,L6 FU v=some (c,b)∧AH c:=by
  have ht:v.aY.db.length+6≤zV v:=by
    obtain⟨t,l⟩:=v;simp only[zV,zT,ax.aY];omega
  have hk:=qR v;have hl:=qS v.ae;unfold L6;cases(v.aY.an==1)
  · rw[aX];cases(v.aY.an==4)
    · rw[aX];cases(v.aY.an==2)
      · exact⟨_,_,rfl,Io⟩
      · obtain⟨y,hy⟩:=Qy v.aY.db (by omega);rw[bf,hy,aW,lt_eq];cases(cond (y==[114,103,98]) true (y==[114,103,98,97]))
        · exact⟨_,_,rfl,Io⟩
        · obtain⟨c,b,h1,h2⟩:=afQ v.ae (by omega);rw[bf,h1];exact⟨c,b,rfl,h2⟩
    · obtain⟨c,b,h1,h2⟩:=afN v.aY.db (by omega);rw[bf,h1];exact⟨c,b,rfl,h2⟩
  · obtain⟨c,e,h1,h2⟩:=afG v.aY.db (by omega);rw[bf,h1];exact⟨c,_,rfl,h2⟩
theorem Fg{β:Type}(a b:List cj)(k:Option β)(ha:a.length≤10)(hb:b.length≤10):aH (ln a+ln b≤137438953472) k=k:=bP (by unfold ln;omega)
theorem afS(v:ax)(hv:zV v≤1048576):∃l,Hc FU v=some l∧l.length≤4:=by
  have ht:v.aY.db.length≤1048576∧v.aY.Unit.length≤1048576:=by have:=afD v;omega
  obtain⟨c,b,h1,hw⟩:=afR v hv;unfold Hc;rw[h1,aW];dsimp only;have afT:∃q:List cj,(cond b (aH (ln ([]:List cj)+ln ([cj.mk 7 [] 0 c]:List cj)≤137438953472) (lt (([]:List cj)++([cj.mk 7 [] 0 c]:List cj)) λry=>some ry)) (some ([]:List cj)):Option (List cj))=some q∧q.length≤1:=by
    cases b
    · exact⟨[],rfl,by decide⟩
    · rw[bf,Fg _ _ _ (by decide) (by simp),lt_eq];exact⟨_,rfl,by simp⟩
  obtain⟨q,hq,ql⟩:=afT;rw[hq,aW];have yL:∀(z:List cj)(x:cj)(k:Nat),z.length≤k→(z++[x]).length≤k+1:=λz x k h=>by simp only[eU,eF,fY];omega
  cases(v.aY.an==1)
  · rw[aX];cases(v.aY.an==12)
    · rw[aX];cases(v.aY.an==10)
      · exact⟨q,rfl,by omega⟩
      · rw[bf];have h2:∃r:List cj,(cond v.aY.mE (aH (ln q+ln ([cj.mk 6 [] (J (Int.tdiv v.aY.cU 1000)) (cV.mk 0 0 0 0)]:List cj)≤137438953472) (lt (q++([cj.mk 6 [] (J (Int.tdiv v.aY.cU 1000)) (cV.mk 0 0 0 0)]:List cj)) λL7=>some L7)) (some q):Option (List cj))=some r∧r.length≤2:=by
          cases v.aY.mE
          · exact⟨q,rfl,by omega⟩
          · rw[bf,Fg _ _ _ (by omega) (by simp),lt_eq];exact⟨_,rfl,yL _ _ 1 ql⟩
        obtain⟨r,hr,rl⟩:=h2;rw[hr,aW,Fg _ _ _ (by omega) (by simp),lt_eq];cases(v.aY.cU==0)
        · exact⟨_,rfl,Nat.le_trans (yL _ _ 2 rl) (by decide)⟩
        · rw[bf,Fg _ _ _ (Nat.le_trans (yL _ _ 2 rl) (by decide)) (by simp),lt_eq];exact⟨_,rfl,yL _ _ 3 (yL _ _ 2 rl)⟩
    · obtain⟨y,hy⟩:=Qy v.aY.Unit ht.2;rw[bf,hy,aW,lt_eq,lt_eq];cases(decide (0<gi ([2,3,4,0]:List Int) (re ([[112,120],[101,109],[114,101,109]]:List a7) y)))
      · exact⟨q,rfl,by omega⟩
      · rw[bf,Fg _ _ _ (by omega) (by simp),lt_eq];exact⟨_,rfl,Nat.le_trans (yL _ _ 1 ql) (by decide)⟩
  · obtain⟨y,hy⟩:=Qy v.aY.db ht.1;rw[bf,hy,aW,Fg _ _ _ (by omega) (by simp),lt_eq,lt_eq];cases(y==[99,117,114,114,101,110,116,99,111,108,111,114])
    · exact⟨_,rfl,Nat.le_trans (yL _ _ 1 ql) (by decide)⟩
    · rw[bf,Fg _ _ _ (Nat.le_trans (yL _ _ 1 ql) (by decide)) (by simp),lt_eq];exact⟨_,rfl,Nat.le_trans (yL _ _ 2 (yL _ _ 1 ql)) (by decide)⟩
theorem afU(v:cj):∃e,Hi v=some e:=by
  have fin:∀b:Bool,∃e:Int,(cond b (some 8) (some 0):Option Int)=some e:=λb=>by cases b<;>exact⟨_,rfl⟩
  unfold Hi;cases(v.an==1)<;>cases(v.an==6)<;>cases(v.an==2)<;>cases(v.an==3)<;>cases(v.an==4)<;>cases(v.an==5)<;>cases(v.an==7)<;>cases(v.an==8)<;>simp only[bf,aX,aW,dk,lt_eq]<;>first|exact fin _|exact⟨_,rfl⟩
theorem afV:(aU.all λp=>decide (p.eN.length<60)&&decide (p.eE.length<60)&&!(p.eE.contains 1))=true:=by kernel_rfl
theorem afW{df:Int}(h:0≤df∧df<ln aU):gi aU df∈aU:=by
  obtain⟨i,rfl⟩:∃i:Nat,df=i:=⟨df.toNat,by omega⟩;have hi:i<aU.length:=by unfold ln at h;omega
  rw[j6 _ _ hi];exact List.getElem_mem _
theorem afX(l:List Int)(x:Int)(h:l.length<60):L9 64 l x=some (pF (λi=>x==gi l i) l.length 0).isSome:=by
  have h1:=Xm (L8 64 l x) (λi=>x==gi l i) (λi=>Sum.inl i) (Sum.inr ()) (ln l) l.length rfl (by omega)
    (λkk i hi=>by rw[L8];exact Xl hi) l.length 0 64 rfl (by omega) (by omega)
  unfold L9 P9;rw[show(0:Int)=((0:Nat):Int)from rfl,h1];cases hf:pF (λi=>x==gi l i) l.length 0 with
  |none=>rfl
  |some r=>
    have h0:=M0 _ _ _ _ hf;have h2:decide (((0:Nat):Int)≤r)=true:=eR (by omega);show some (decide (((0:Nat):Int)≤r))=_;rw[h2];rfl
def afY(p:eS)(w:a7):Bool:=(pF (λi=>w==gi p.eN i) p.eN.length 0).isSome
def afZ(p:eS)(v:cj):Bool:=cond (pF (λi=>v.an==gi p.eE i) p.eE.length 0).isSome (cond (!p.OK) true (decide (0≤v.cU))) false
def a3t(df:Int)(v:cj)(e:Int):Bool×Int:=cond (cond (decide (df<0)) true (decide (18≤df))) (false,2)
  (cond (e !=0) (false,0) (cond (v.an==1) (afY (gi aU df) v.A3,0) (afZ (gi aU df) v,0)))
theorem rng{df:Int}(h:cond (decide (df<0)) true (decide (18≤df))=false):0≤df∧df<ln aU:=by
  rw[Xo];by_cases h1:df<0
  · rw[eR h1]at h;cases h
  · rw[du h1]at h;have:¬(18≤df):=of_decide_eq_false h;omega
theorem lens{df:Int}(h:0≤df∧df<ln aU):(gi aU df).eN.length<60∧(gi aU df).eE.length<60∧(gi aU df).eE.contains 1=false:=by
  have:=List.all_eq_true.1 afV _ (afW h);simp only[Bool.and_eq_true,decide_eq_true_eq,Bool.not_eq_true']at this;exact⟨this.1.1,this.1.2,this.2⟩
theorem ag0(df:Int)(v:cj)(e:Int)(he:Hi v=some e):Hl 64 df v=some (a3t df v e):=by
  unfold Hl a3t;simp only[lt_eq];cases hr:cond (decide (df<0)) true (decide (18≤df))
  · have h0:=rng hr;obtain⟨l1,l2,_⟩:=lens h0;simp only[aX];rw[Xn];simp only[aW];rw[bP h0,he];simp only[aW];cases(e !=0)
    · simp only[aX];rw[M1 _ _ l1,afX _ _ l2];simp only[aW];cases(v.an==1)<;>rfl
    · rfl
  · rfl

theorem ag1(df:Int)(v:cj):∃q,Hl 64 df v=some q:=by
  obtain⟨e,he⟩:=afU v;exact⟨_,ag0 df v e he⟩
theorem ag2(df:Int)(l:List cj)(hl:l.length≤4):∀(kk i:Nat),l.length-i<kk→i≤l.length→∃z,Hm FU df l kk (i:Int)=some z:=by
  intro kk
  induction kk with
  |zero=>intro i h;omega
  |succ kk ih=>
    intro i h hi;rw[Hm];by_cases h1:i<l.length
    · obtain⟨⟨is,e⟩,hx⟩:=ag1 df (gi l (i:Int));rw[ie h1,bf,fy h1,hx,aW];dsimp only;cases is
      · rw[aX,bX (by omega)];exact ih (i+1) (by omega) (by omega)
      · exact⟨_,rfl⟩
    · rw[gJ (by omega),aX];exact⟨_,rfl⟩
theorem ag3(df:Int)(l:List ax)(hl:cC l≤1048576):∃r,Lb FU df l=some r:=by
  unfold Lb;rw[lt_eq];cases(cond (decide (df<0)) true (decide (18≤df)))
  · rw[aX];by_cases h1:ln l=1
    · have hlen:0<l.length:=by unfold ln at h1;omega
      have hm:=qT (l:=l) (i:=0) hlen;have hz:=sb hm;obtain⟨q,hq,ql⟩:=afS (gi l ((0:Nat):Int)) (by omega);rw[h1,bne_self_eq_false,aX,bP ⟨by decide,by decide⟩,show Hc FU (gi l (0:Int))=some q from hq,aW];obtain⟨z,h⟩:=ag2 df q ql FU 0 (by unfold FU;omega) (iv _);rw[show Hm FU df q FU 0=_ from h];cases z<;>exact⟨_,rfl⟩
    · rw[show(ln l !=1)=true from bne_iff_ne.2 h1];exact⟨_,rfl⟩
  · exact⟨_,rfl⟩
def Ip(name:a7)(l:List ax):Bool:=(Ca FU name l).getD false
theorem a3u(name:a7)(l:List ax)(hl:cC l≤1048576):Ca FU name l=some (Ip name l):=by
  have h:∃b,Ca FU name l=some b:=by
    unfold Ca;rw[a3l,aW];cases((um name).2 !=0)
    · obtain⟨r,h1⟩:=ag3 (um name).1 l hl;rw[aX,h1];exact⟨_,rfl⟩
    · exact⟨_,rfl⟩
  obtain⟨b,h1⟩:=h;unfold Ip;rw[h1];rfl
theorem a3v(v:ax):v.aY.db.length+v.aY.Unit.length+cC v.ae+8≤zV v:=by
  obtain⟨t,l⟩:=v;simp only[zV,zT,ax.aY,ax.ae];omega
def iA(w:a7):List a7:=cond (w==jY) Qx (cond (yK w) [w++[45,99,111,108,111,114]] [])
theorem a3w(w:a7)(hw:w.length≤1048576):BT 64 w=some (iA w):=by
  unfold BT iA;rw[lt_eq,M1 A2 w (by decide),aW];rw[show(pF (λi=>w==gi A2 i) A2.length 0).isSome=cond (w==jY) true (yK w)from Xt _ _ _ _ w];cases hm:(w==jY)
  · rw[aX,aX,lt_eq];cases hs:yK w
    · rfl
    · rw[oF,aX,show(!(w==([109,97,114,103,105,110]:a7)))=true from by rw[show(w==([109,97,114,103,105,110]:a7))=false from hm];rfl,bf,bP (by unfold ln;simp only[eF,fY];omega)];rfl
  · have e:w=jY:=eq_of_beq hm;subst e;rw[show KE 64 jY 64 [] 0=some Qx from by kernel_rfl];rfl
def nV(l:List ax)(i:Nat):Bool:=(gi l (i:Int)).aY.an==13
def gl(l:List ax):Nat→Nat→List (List ax)→Option (List (List ax))
  |0,_,v=>some v
  |k+1,i,v=>cond (nV l i) (gl l k (i+1) v) (cond (cond (decide (0<i)) (!(nV l (i-1))) false) none (gl l k (i+1) (v++[[gi l (i:Int)]])))
theorem tA{l:List ax}{i:Nat}(h:i<l.length):fE l (i:Int) ((i+1:Nat):Int)=[gi l (i:Int)]:=by
  rw[j6 l i h];unfold fE;simp only[Int.toNat_natCast];rw[pq h,show i+1-i=1 from by omega];rfl
theorem ag4(l:List ax)(hl:l.length≤1048576):∀(kk i k:Nat)(v:List (List ax)),i+k=l.length→k<kk→v.length≤i→
    Hn FU l kk v (i:Int)=match gl l k i v with
      |none=>some (.inl [])
      |some q=>some (.inr q):=by
  intro kk
  induction kk with
  |zero=>intro i k v _ h;omega
  |succ kk ih=>
    intro i k v N0 hk hv;rw[Hn];cases k with
    |zero=>rw[gJ (by omega),aX];rfl
    |succ k=>
      have h1:i<l.length:=by omega
      rw[ie h1,bf,fy h1,gl];show Option.bind (cond (nV l i) _ _) _=_;cases hs:nV l i
      · rw[aX,aX];have ag5:(cond (decide (0<(i:Int))) ((gi l (J ((i:Int)-1))).aY.an !=13) false)=cond (decide (0<i)) (!(nV l (i-1))) false:=by
          by_cases h0:0<i
          · rw[eR h0,eR (show(0:Int)<(i:Int) by omega),bf,bf,show J ((i:Int)-1)=((i-1:Nat):Int)from by rw[nB (by omega) (by omega)];omega];rfl
          · rw[du h0,du (show¬(0:Int)<(i:Int) by omega)];rfl
        rw[bP (λh=>by
          have h0:(0:Int)<(i:Int):=by simpa using h
          rw[show J ((i:Int)-1)=((i-1:Nat):Int)from by rw[nB (by omega) (by omega)];omega];exact⟨by omega,by unfold ln;omega⟩),lt_eq,ag5]
        cases(cond (decide (0<i)) (!(nV l (i-1))) false)
        · rw[aX,aX,bX (by omega),bP ⟨by omega,by omega,by unfold ln;omega⟩,lt_eq,tA h1,bP (by unfold ln;simp only[eF,fY];omega),lt_eq,aW];dsimp only[dk];exact ih (i+1) k _ (by omega) (by omega) (by simp only[eU,eF,fY];omega)
        · rfl
      · rw[bf,bf,aW];dsimp only[dk];rw[bX (by omega)];exact ih (i+1) k v (by omega) (by omega) (by omega)
abbrev LV:=List (List ax)
def Fh:LV→LV
  |[a]=>[a,a,a,a]
  |[a,b]=>[a,b,a,b]
  |[a,b,c]=>[a,b,c,b]
  |v=>v
def pt(l:List ax):LV:=cond (decide (l.length=0)) [] (cond (cond (nV l 0) true (nV l (l.length-1))) [] (match gl l l.length 0 []with
  |none=>[]
  |some v=>cond (decide (4<v.length)) [] (Fh v)))
theorem Xw(l:List ax):∀(k i:Nat)(v q:LV),gl l k i v=some q→v.length≤q.length
  |0,i,v,q,h=>by cases h;exact cZ _
  |k+1,i,v,q,h=>by
    rw[gl]at h;cases hs:nV l i
    · rw[hs,aX]at h;cases hq:(cond (decide (0<i)) (!(nV l (i-1))) false)
      · rw[hq,aX]at h;have:=Xw l k (i+1) _ q h;simp only[eU,eF,fY]at this;omega
      · rw[hq]at h;cases h
    · rw[hs,bf]at h;exact Xw l k (i+1) v q h
theorem ag6(l:List ax)(hf:nV l 0=false)(hl:0<l.length)(q:LV)(h:gl l l.length 0 []=some q):0<q.length:=by
  obtain⟨k,hk⟩:∃k,l.length=k+1:=⟨l.length-1,by omega⟩;rw[hk,gl,hf,aX,du (by omega),aX,aX]at h;have:=Xw l k 1 _ q h;simp only[List.nil_append,eF,fY]at this;omega
def fp(v:LV):Option LV:=Option.bind (aH (0≤J (ln v-1)∧J (ln v-1)≤ln ([0,0,1]:List Int)∧ln ([0,0,1]:List Int)≤ln ([0,0,1]:List Int))<|
  lt (fE ([0,0,1]:List Int) (J (ln v-1)) (ln ([0,0,1]:List Int))) λmm=>
  Pb FU mm FU v 0) λ(EJ:LV)=>some EJ
theorem fp1(a:List ax):fp [a]=some [a,a,a,a]:=by kernel_rfl
theorem fp2(a b:List ax):fp [a,b]=some [a,b,a,b]:=by kernel_rfl
theorem fp3(a b c:List ax):fp [a,b,c]=some [a,b,c,b]:=by kernel_rfl
theorem fp4(a b c d:List ax):fp [a,b,c,d]=some [a,b,c,d]:=by kernel_rfl
theorem fill(v:LV)(hp:0<v.length)(h4:¬4<v.length):fp v=some (Fh v):=by
  match v,hp,h4 with
  |[a],_,_=>exact fp1 a
  |[a,b],_,_=>exact fp2 a b
  |[a,b,c],_,_=>exact fp3 a b c
  |[a,b,c,d],_,_=>exact fp4 a b c d
  |a::b::c::d::e::r,_,h=>exact absurd h (by simp only[eF];omega)
theorem ag7(l:List ax)(hl:l.length≤1048576):Ho FU l=some (pt l):=by
  unfold Ho pt;by_cases h0:l.length=0
  · have:l=[]:=a6u h0;subst this;rfl
  · have n0:(ln l==0)=false:=vb.2 (by unfold ln;omega);have wl:J (ln l-1)=((l.length-1:Nat):Int):=by unfold ln;rw[nB (by omega) (by omega)];omega
    rw[n0,du h0,aX,aX,bP (λ_=>⟨by decide,by unfold ln;omega⟩),lt_eq,wl,bP (λ_=>⟨by omega,by unfold ln;omega⟩),lt_eq];show cond (cond (nV l 0) true (nV l (l.length-1))) _ _=_;cases hb:(cond (nV l 0) true (nV l (l.length-1)))
    · rw[aX,aX,show Hn FU l FU [] 0=_ from ag4 l hl FU 0 l.length [] (by omega) (by unfold FU;omega) (iv _)];have hf:nV l 0=false:=by
        cases h:nV l 0
        · rfl
        · rw[h]at hb;cases hb
      cases hg:gl l l.length 0 []with
      |none=>rfl
      |some v=>
        have hp:=ag6 l hf (by omega) v hg;rw[aW];dsimp only[dk];by_cases h4:4<v.length
        · rw[eR (show 4<ln v by unfold ln;omega),eR h4];rfl
        · rw[du (show¬4<ln v by unfold ln;omega),du h4,aX,aX];exact fill v hp h4
    · rfl
def Fi(y:List a7)(z:LV)(i:Nat):Nat→Bool
  |0=>true
  |k+1=>Ip (gi y (i:Int)) (gi z (i:Int))&&Fi y z (i+1) k
theorem ag8(y:List a7)(z:LV)(hyz:z.length=y.length)(hy:y.length≤10)(hz:∀x∈z,cC x≤1048576):∀(kk i k:Nat),i+k=y.length→k<kk→
    Hs FU z y kk (i:Int)=cond (Fi y z i k) (some (.inr ())) (some (.inl [])):=by
  intro kk
  induction kk with
  |zero=>intro i k _ h;omega
  |succ kk ih=>
    intro i k N0 hk;rw[Hs];cases k with
    |zero=>rw[gJ (by omega),aX];rfl
    |succ k=>
      have h1:i<y.length:=by omega
      have h2:i<z.length:=by omega
      rw[ie h1,bf,fy h1,fy h2,a3u _ _ (hz _ (qT h2)),aW,Fi];cases Ip (gi y (i:Int)) (gi z (i:Int))
      · rfl
      · rw[oF,aX,bX (by omega),a6v];exact ih (i+1) k (by omega) (by omega)
theorem Xx(l:List ax)(yM:cC l≤1048576):∀(k i:Nat)(v q:LV),i+k=l.length→(∀x∈v,cC x≤1048576)→gl l k i v=some q→∀x∈q,cC x≤1048576
  |0,i,v,q,_,hv,h=>by cases h;exact hv
  |k+1,i,v,q,N0,hv,h=>by
    rw[gl]at h;cases hs:nV l i
    · rw[hs,aX]at h;cases hq:(cond (decide (0<i)) (!(nV l (i-1))) false)
      · rw[hq,aX]at h;refine Xx l yM k (i+1) _ q (by omega) (λx hx=>?_) h;rcases List.mem_append.1 hx with h'|h'
        · exact hv x h'
        · rw[List.mem_singleton.1 h'];have hm:=sb (qT (show i<l.length by omega));simp only[cC];omega
      · rw[hq]at h;cases h
    · rw[hs,bf]at h;exact Xx l yM k (i+1) v q (by omega) hv h
theorem ag9{P:List ax→Prop}(v:LV)(h:∀x∈v,P x):∀x∈Fh v,P x:=by
  match v,h with
  |[],h=>exact h
  |[a],h=>intro x hx;have:=h a (by simp);simp[Fh]at hx;rw[hx];exact this
  |[a,b],h=>intro x hx;have h1:=h a (by simp);have h2:=h b (by simp);simp[Fh]at hx;rcases hx with hx|hx|hx|hx<;>rw[hx]<;>assumption
  |[a,b,c],h=>intro x hx;have h1:=h a (by simp);have h2:=h b (by simp);have h3:=h c (by simp);simp[Fh]at hx;rcases hx with hx|hx|hx|hx<;>rw[hx]<;>assumption
  |a::b::c::d::r,h=>exact h
theorem a3x(l:List ax)(yM:cC l≤1048576):∀x∈pt l,cC x≤1048576:=by
  unfold pt;cases decide (l.length=0)
  · cases(cond (nV l 0) true (nV l (l.length-1)))
    · rw[aX,aX];cases hg:gl l l.length 0 []with
      |none=>intro x hx;cases hx
      |some v=>
        have:=Xx l yM l.length 0 [] v (by omega) (λx hx=>by cases hx) hg;show∀x∈cond (decide (4<v.length)) [] (Fh v),cC x≤1048576;cases decide (4<v.length)
        · exact ag9 v this
        · intro x hx;cases hx
    · intro x hx;cases hx
  · intro x hx;cases hx
def CW(w:a7)(l:List ax):LV:=cond (ln (cond (w==jY) (pt l) [l]) !=ln (iA w)) [] (cond (Fi (iA w) (cond (w==jY) (pt l) [l]) 0 (iA w).length) (cond (w==jY) (pt l) [l]) [])
theorem aga(w:a7):(iA w).length≤4:=by
  unfold iA;cases(w==jY)<;>cases yK w<;>exact Nat.le_of_ble_eq_true rfl
theorem agb(w:a7)(l:List ax)(hw:w.length≤1048576)(yM:cC l≤1048576):Ht FU w l=some (CW w l):=by
  have hl:=qS l;have hll:=aga w;have e1:(cond (w==[109,97,114,103,105,110]) (Option.bind (Ho FU l) λc9=>some c9) (some ([l]:LV)):Option LV)=some (cond (w==jY) (pt l) [l]):=by
    rw[ag7 l (by omega)];show cond (w==jY) _ _=_;cases(w==jY)<;>rfl
  have hm:∀x∈cond (w==jY) (pt l) [l],cC x≤1048576:=by
    cases(w==jY)
    · intro x hx;rw[List.mem_singleton.1 hx];exact yM
    · exact a3x l yM
  unfold Ht CW;rw[e1,aW,a3w w hw,aW];generalize cond (w==jY) (pt l) [l]=z at*;cases hn:(ln z !=ln (iA w))
  · have hlen:z.length=(iA w).length:=by
      have:=bne_eq_false_iff_eq.1 hn;unfold ln at this;omega
    rw[aX,aX,show Hs FU z (iA w) FU 0=_ from ag8 (iA w) z hlen (by omega) hm FU 0 (iA w).length (by omega) (by unfold FU;omega)];cases Fi (iA w) z 0 (iA w).length<;>rfl
  · rfl
theorem agc(w:a7)(l:List ax):(ln (CW w l)==0)=true∨(CW w l).length=(iA w).length:=by
  unfold CW;cases hn:(ln (cond (w==jY) (pt l) [l]) !=ln (iA w))
  · rw[aX];cases Fi (iA w) (cond (w==jY) (pt l) [l]) 0 (iA w).length
    · exact Or.inl rfl
    · right;have:=bne_eq_false_iff_eq.1 hn;unfold ln at this;rw[bf];omega
  · exact Or.inl rfl
theorem agd(w:a7)(l:List ax)(yM:cC l≤1048576):∀x∈CW w l,cC x≤1048576:=by
  have hm:∀x∈cond (w==jY) (pt l) [l],cC x≤1048576:=by
    cases(w==jY)
    · intro x hx;rw[List.mem_singleton.1 hx];exact yM
    · exact a3x l yM
  unfold CW;cases(ln (cond (w==jY) (pt l) [l]) !=ln (iA w))
  · rw[aX];cases Fi (iA w) (cond (w==jY) (pt l) [l]) 0 (iA w).length
    · intro x hx;cases hx
    · exact hm
  · intro x hx;cases hx
theorem age(x:ax):x.aY.db.length≤zV x:=by
 obtain⟨t,l⟩:=x;simp only[zV,zT,ax.aY];omega
def words:List a7:=[[105,110,105,116,105,97,108],[105,110,104,101,114,105,116],[117,110,115,101,116],[114,101,118,101,114,116]]
def QB:a7:=[114,101,118,101,114,116]
def QC:a7:=[117,110,115,101,116]
theorem agf(m:Nat)(s:a7)(hs:s.length≤1048576):∀(kk i:Nat)(b:List Int),s.length-i<kk→i≤s.length→∃r,KQ m s kk (i:Int) b=some r:=by
 intro kk
 induction kk with
 |zero=>intro i b h;omega
 |succ kk ih=>
  intro i b h hi;have hl:(bG s).length=s.length:=by simp[bG]
  rw[KQ];by_cases h1:i<s.length
  ·rw[ie (by rw[hl];exact h1),bf,fy (by rw[hl];exact h1),lt_eq,bX (by omega)];cases(cond (decide (65≤gi b (i:Int))) (decide (gi b (i:Int)≤90)) false)
   ·exact ih (i+1) _ (by omega) (by omega)
   ·exact ih (i+1) _ (by omega) (by omega)
  ·rw[gJ (by rw[hl];omega),aX];exact⟨_,rfl⟩
theorem a3y(s:a7)(hs:s.length≤1048576):∃r,C2 FU s=some r:=by
 obtain⟨r,h⟩:=agf FU s hs FU 0 (bG s) (by unfold FU;omega) (iv _);exact⟨jx r,by unfold C2;rw[show(0:Int)=((0:Nat):Int)from rfl,h];rfl⟩
def wid(v:List ax):a7:=(Ex FU v).getD []
theorem agh(x:a7):yl 64 words x=some (cond (x==[105,110,105,116,105,97,108]) true (cond (x==[105,110,104,101,114,105,116]) true (cond (x==QC) true (x==QB)))):=by
 rw[M1 words x (by decide)];congr 1;exact Xt _ _ _ _ x
theorem agi(v:List ax)(hv:cC v≤1048576):Ex FU v=some (wid v)∧(wid v=[]∨wid v=[105,110,105,116,105,97,108]∨wid v=[105,110,104,101,114,105,116]∨wid v=QC∨wid v=QB):=by
 have key:∃w,Ex FU v=some w∧(w=[]∨w=[105,110,105,116,105,97,108]∨w=[105,110,104,101,114,105,116]∨w=QC∨w=QB):=by
  unfold Ex;by_cases h1:ln v=1
  ·have h0:0≤(0:Int)∧(0:Int)<ln v:=by omega
   rw[bP (λ_=>h0),lt_eq];cases hx:(cond (ln v==1) ((gi v (0:Int)).aY.an==1) false)
   ·exact⟨[],rfl,Or.inl rfl⟩
   ·rw[bf,bP h0];have hm:gi v (0:Int)∈v:=qT (i:=0) (by unfold ln at h1;omega);have h2:=sb hm;have h3:(gi v (0:Int)).aY.db.length≤1048576:=by have:=age (gi v (0:Int));omega
    obtain⟨r,hr⟩:=a3y _ h3;rw[hr,aW];show∃w,Option.bind (Option.bind (yl 64 words r) _) _=_∧_;rw[agh,aW];cases b1:(r==([105,110,105,116,105,97,108]:a7))
    ·cases b2:(r==([105,110,104,101,114,105,116]:a7))
     ·cases b3:(r==QC)
      ·cases b4:(r==QB)
       ·exact⟨[],rfl,Or.inl rfl⟩
       ·exact⟨r,rfl,Or.inr (Or.inr (Or.inr (Or.inr (eq_of_beq b4))))⟩
      ·exact⟨r,rfl,Or.inr (Or.inr (Or.inr (Or.inl (eq_of_beq b3))))⟩
     ·exact⟨r,rfl,Or.inr (Or.inr (Or.inl (eq_of_beq b2)))⟩
    ·exact⟨r,rfl,Or.inr (Or.inl (eq_of_beq b1))⟩
  ·have hb:(ln v==1)=false:=by simpa using h1
   rw[hb,bP (λh=>by cases h),lt_eq];exact⟨[],rfl,Or.inl rfl⟩
 obtain⟨w,h1,h2⟩:=key;have e:wid v=w:=by unfold wid;rw[h1];rfl
 rw[e];exact⟨h1,h2⟩
def M4(s:a7):a7:=(C2 FU s).getD []
theorem agj(s:a7)(hs:s.length≤1048576):C2 FU s=some (M4 s):=by
 obtain⟨r,h⟩:=a3y s hs;unfold M4;rw[h];rfl
mutual
def vV:ax→Bool
 | .mk t l=>cond (t.an==2) (M4 t.db==[118,97,114]) false||pG l
def pG:List ax→Bool
 |[]=>false
 |x::r=>vV x||pG r
end
theorem agk(x:ax):vV x=(cond (x.aY.an==2) (M4 x.aY.db==[118,97,114]) false||pG x.ae):=by obtain⟨t,l⟩:=x;rw[vV];rfl
theorem agl(rec:List ax→Option Bool)(x:ax)(hx:zV x≤1048576)(hr:rec x.ae=some (pG x.ae)):KR FU rec x=some (vV x):=by
 have hz:=a3v x;unfold KR;rw[agk];cases(x.aY.an==2)
 ·rw[aX,aX,aW,lt_eq,hr];rfl
 ·rw[bf,bf,agj _ (by omega),aW,lt_eq];cases(M4 x.aY.db==[118,97,114])
  ·rw[hr];rfl
  ·rfl
theorem agm(rec:List ax→Option Bool)(v:List ax)(hb:cC v≤1048576)(hr:∀x∈v,rec x.ae=some (pG x.ae)):∀(kk i:Nat),v.length-i<kk→i≤v.length→
  (pG (v.drop i)=true∧∃j:Nat,C3 FU rec v kk (i:Int)=some (.inl (j:Int)))∨(pG (v.drop i)=false∧C3 FU rec v kk (i:Int)=some (.inr ())):=by
 have hl:=qS v;intro kk
 induction kk with
 |zero=>intro i h;omega
 |succ kk ih=>
  intro i h hi;rw[C3];by_cases h1:i<v.length
  ·have hm:=qT h1;have hz:=sb hm;rw[ie h1,bf,fy h1,agl rec _ (by omega) (hr _ hm),aW,pq h1,pG,←j6 v i h1];cases hh:vV (gi v (i:Int))
   ·rw[aX,Je,bX (by omega)];exact ih (i+1) (by omega) (by omega)
   ·left;exact⟨rfl,i,rfl⟩
  ·right;rw[gJ (by omega),aX,zh (by omega),pG];exact⟨rfl,rfl⟩
theorem agn:∀(k:Nat)(v:List ax),cC v<k→cC v≤1048576→A7 FU k v=some (pG v):=by
 intro k
 induction k with
 |zero=>intro v h;omega
 |succ k ih=>
  intro v h hb;have hl:=qS v;rw[A7];unfold P0 OZ;rcases agm (A7 FU k) v hb (λx hx=>by
   have h1:=sb hx;have h2:=qR x;exact ih _ (by omega) (by omega)) FU 0 (by unfold FU;omega) (iv _)with⟨e,j,h1⟩|⟨e,h1⟩
  ·rw[o5]at e;rw[show C3 FU (A7 FU k) v FU 0=_ from h1,e,aW];dsimp only[dk];rw[aW,aW,eR (by omega)]
  ·rw[o5]at e;rw[show C3 FU (A7 FU k) v FU 0=_ from h1,e];rfl
theorem ago(v:List ax)(hb:cC v≤1048576):Vb FU v=some (pG v):=agn FU v (by unfold FU;omega) hb
theorem agp(v:List ax):Cb FU [v] 1=some [v]:=by kernel_rfl
theorem agq(v:List ax):Cb FU [v] 4=some [v,v,v,v]:=by kernel_rfl
def gG(w:a7):Bool:=decide (0<ln (iA w))
def rJ(d:cT):Bool:=cond (AG d.bm) true (cond (!(wid d.Value==[])) true (cond (pG d.Value) true (cond (gG d.bm) false (Ip d.bm d.Value))))
def w8(d:cT):LV:=cond (rJ d) (List.replicate (lQ d.bm).1.length d.Value) (cond (gG d.bm) (CW d.bm d.Value) [])
def whl(d:cT):a7:=cond (cond (gG d.bm) (pG d.Value) false) d.bm []
def agr(d:cT):List nh:=List.zipWith (λn v=>nh.mk n v (whl d)) (lQ d.bm).1 (w8 d)
def Xy(d:cT):List nh×Int:=cond (Ff d.Value !=0) ([],Ff d.Value) (cond ((lQ d.bm).2 !=0) ([],(lQ d.bm).2) (cond (ln (w8 d)==0) ([],12) (agr d,0)))
theorem a3z(w:a7):(gG w=true∧lQ w=(iA w,0))∨(gG w=false∧iA w=[]∧((lQ w).2=0→(lQ w).1=[w])):=by
  unfold gG lQ iA;cases(w==jY)
  · cases yK w
    · right;refine⟨rfl,rfl,λh=>?_⟩;simp only[aX]at h⊢;cases hh:((CT w).2 !=0)
      · rfl
      · rw[hh]at h;cases h
    · exact Or.inl ⟨rfl,rfl⟩
  · exact Or.inl ⟨rfl,rfl⟩
theorem ags(w:a7)(h:gG w=true):(iA w).length=1∨(iA w).length=4:=by
  unfold gG iA at h;unfold iA;cases hm:(w==jY)
  · rw[hm]at h;cases hs:yK w
    · rw[hs]at h;cases h
    · exact Or.inl rfl
  · exact Or.inr rfl
theorem a3A(w:a7)(h:(lQ w).2=0):(lQ w).1.length=1∨(lQ w).1.length=4:=by
  rcases a3z w with⟨h1,h2⟩|⟨h1,h2,h3⟩
  · rw[h2];exact ags w h1
  · rw[h3 h];exact Or.inl rfl
theorem agt(v:List ax)(n:Nat)(h:n=1∨n=4):Cb FU [v] ((n:Nat):Int)=some (List.replicate n v):=by
  rcases h with rfl|rfl
  · exact agp v
  · exact agq v
theorem agu(d:cT)(hv:cC d.Value≤1048576):∀x∈w8 d,cC x≤1048576:=by
  unfold w8;cases rJ d
  · cases gG d.bm
    · intro x hx;cases hx
    · exact agd d.bm d.Value hv
  · intro x hx;rw[List.eq_of_mem_replicate hx];exact hv
theorem agv(d:cT)(h:(lQ d.bm).2=0):(ln (w8 d)==0)=true∨(w8 d).length=(lQ d.bm).1.length:=by
  unfold w8;cases rJ d
  · rcases a3z d.bm with⟨h1,h2⟩|⟨h1,h2,h3⟩
    · rw[h1,h2];exact agc d.bm d.Value
    · rw[h1];exact Or.inl rfl
  · right;rw[bf,List.length_replicate]
theorem agw(d:cT)(y:List a7)(j8:List a7)(b:Bool)(z:LV)(wh:a7)(hw:cond (cond (decide (0<ln j8)) b false) d.bm []=wh)(hyz:z.length=y.length)(hy:y.length≤10)(hz:∀x∈z,cC x≤1048576):∀(kk i:Nat)(v:List nh),y.length-i<kk→i≤y.length→v.length≤i→
    Hu FU d (y,0) j8 b z kk v (i:Int)=some (v++List.zipWith (λn x=>nh.mk n x wh) (y.drop i) (z.drop i)):=by
  have hcw:(cond (cond (decide (0<ln j8)) b false) (some d.bm) (some []):Option a7)=some wh:=by
    rw[←hw];cases(cond (decide (0<ln j8)) b false)<;>rfl
  intro kk
  induction kk with
  |zero=>intro i v h;omega
  |succ kk ih=>
    intro i v h hi hv;rw[Hu];by_cases h1:i<y.length
    · have h2:i<z.length:=by omega
      rw[ie h1,bf,fy h1,fy h2,show VP FU (gi z (i:Int))=some (gi z (i:Int))from afx FU Xs FU _ (by have:=hz _ (qT h2);unfold FU;omega) (hz _ (qT h2)),aW,hcw,aW,bP (by unfold ln;simp only[eF,fY];omega),lt_eq,bX (by omega),ih (i+1) _ (by omega) (by omega) (by simp only[eU,eF,fY];omega),pq h1,pq h2,List.zipWith_cons_cons,j6 z i h2,xQ];rw[show gi (y,(0:Int)).1 (i:Int)=y[i]from j6 y i h1];rfl
    · rw[show decide ((i:Int)<ln (y,(0:Int)).1)=false from gJ (show y.length≤i by omega),aX,zh (show y.length≤i by omega)];simp
theorem agx(d:cT)(hn:d.bm.length≤1048576)(hv:cC d.Value≤1048576):Lk FU d=some (Xy d):=by
  unfold Lk Xy;rw[Qw FU Xs d.Value hv,aW];cases(Ff d.Value !=0)
  rotate_left
  · rfl
  rw[aX,aX,afz d.bm hn,aW];by_cases he:(lQ d.bm).2=0
  rotate_left
  · rw[show((lQ d.bm).2 !=0)=true from bne_iff_ne.2 he];rfl
  rw[he,show((0:Int) !=0)=false from rfl,aX,aX,a3w d.bm hn,aW,ago d.Value hv,aW,a3m d.bm,aW,(agi d.Value hv).1,aW,a3u d.bm d.Value hv];have hz:(cond (AG d.bm) (some (AG d.bm)) (cond (!(wid d.Value==[])) (some (!(wid d.Value==[]))) (cond (pG d.Value) (some (pG d.Value)) (Option.bind (cond (!(decide (0<ln (iA d.bm)))) (some (Ip d.bm d.Value)) (some default)) λud=>lt (cond (!(decide (0<ln (iA d.bm)))) ud false) λqe=>some qe))):Option Bool)=some (rJ d):=by
    unfold rJ gG;cases AG d.bm<;>cases(!(wid d.Value==[]))<;>cases pG d.Value<;>cases decide (0<ln (iA d.bm))<;>rfl
  rw[hz,aW];have ha:(cond (rJ d) (Option.bind (Cb FU ([d.Value]:LV) (ln (lQ d.bm).1)) λjq=>some jq) (cond (decide (0<ln (iA d.bm))) (Option.bind (Ht FU d.bm d.Value) λeX=>some eX) (some ([]:LV))):Option LV)=some (w8 d):=by
    unfold w8;rw[agb d.bm d.Value hn hv,show Cb FU ([d.Value]:LV) (ln (lQ d.bm).1)=_ from agt d.Value _ (a3A d.bm he)];unfold gG;cases rJ d<;>cases decide (0<ln (iA d.bm))<;>rfl
  rw[ha,aW];rcases agv d he with h0|h0
  · rw[h0];rfl
  · have nZ:(ln (w8 d)==0)=false:=by
      have:=a3A d.bm he;exact vb.2 (by unfold ln;omega)
    have hl:=afA d.bm;have e:=agw d (lQ d.bm).1 (iA d.bm) (pG d.Value) (w8 d) (whl d) rfl h0 (by omega) (agu d hv) FU 0 [] (by unfold FU;omega) (iv _) (iv _);rw[nZ,aX,aX,show lQ d.bm=((lQ d.bm).1,0)from by rw[←he],show Hu FU d ((lQ d.bm).1,0) (iA d.bm) (pG d.Value) (w8 d) FU [] 0=_ from e];rfl
def knw(d:cT):Bool:=(Xy d).2==0
theorem agy(d:cT)(hn:d.bm.length≤1048576)(hv:cC d.Value≤1048576):Ln FU d=some (knw d):=by
 unfold Ln;rw[agx d hn hv];rfl
def zL{α:Type}(z:α→Nat):List α→Nat
 |[]=>0
 |v::r=>z v+zL z r
theorem AK{α:Type}{z:α→Nat}{x:α}:∀{l:List α},x∈l→z x≤zL z l
 |y::l,h=>by
  rw[zL];rcases List.mem_cons.1 h with rfl|h
  ·omega
  ·have:=AK (z:=z) h;omega
theorem AL{α:Type}{z:α→Nat}(hz:∀x,1≤z x):∀l:List α,l.length≤zL z l
 |[]=>iv _
 |y::l=>by have:=AL hz l;have:=hz y;rw[zL,eF];omega
theorem Xz:∀l,mQ l=zL zX l
 |[]=>by rw[mQ,zL]
 |v::r=>by rw[mQ,zL,Xz r]
theorem XB:∀l,vY l=zL zP l
 |[]=>by rw[vY,zL]
 |v::r=>by rw[vY,zL,XB r]
theorem XC:∀l,vZ l=zL zS l
 |[]=>by rw[vZ,zL]
 |v::r=>by rw[vZ,zL,XC r]
theorem QD:∀l,tm l=zL zC l
 |[]=>by rw[tm,zL]
 |v::r=>by rw[tm,zL,QD r]
theorem XD:∀l,dU l=zL zR l
 |[]=>by rw[dU,zL]
 |v::r=>by rw[dU,zL,XD r]
theorem XE:∀l,sa l=zL zD l
 |[]=>rfl
 |v::r=>by rw[sa,zL,XE r]
theorem XF:∀l,jX l=zL tp l
 |[]=>rfl
 |v::r=>by rw[jX,zL,XF r]
theorem XG:∀l,gC l=zL zO l
 |[]=>rfl
 |v::r=>by rw[gC,zL,XG r]
theorem M5(x:bM):zX x=vY x.bt+x.iM.length+4:=by obtain⟨a,b,c⟩:=x;simp only[zX,bM.bt,bM.iM];omega
theorem Iq(x:fZ):zP x=x.Tag.length+vZ x.bC+3:=by obtain⟨a,b⟩:=x;simp only[zP,fZ.Tag,fZ.bC];omega
theorem Ir(x:fA):zS x=x.bm.length+x.Value.length+mQ x.ae+11:=by obtain⟨a,b,c,d,e,f,g,h⟩:=x;simp only[zS,fA.bm,fA.Value,fA.ae];omega
theorem uq(x:bu):zC x=x.bm.length+zD x.aS+tm x.ae+5:=by obtain⟨a,b,c,d,e⟩:=x;simp only[zC,bu.bm,bu.aS,bu.ae];omega
theorem CX(x:cT):zD x=x.bm.length+cC x.Value+4:=by unfold zD;omega
theorem M6(x:bA):zR x=mQ x.dF+sa x.cP+zC x.aT+jX x.bI+dU x.bo+6:=by obtain⟨a,b,c,d,e,f⟩:=x;simp only[zR,bA.dF,bA.cP,bA.aT,bA.bI,bA.bo];omega
theorem mX{x:bM}{l:List bM}(h:x∈l):zX x≤mQ l:=by rw[Xz];exact AK h
theorem mP{x:fZ}{l:List fZ}(h:x∈l):zP x≤vY l:=by rw[XB];exact AK h
theorem mS{x:fA}{l:List fA}(h:x∈l):zS x≤vZ l:=by rw[XC];exact AK h
theorem mC{x:bu}{l:List bu}(h:x∈l):zC x≤tm l:=by rw[QD];exact AK h
theorem mR{x:bA}{l:List bA}(h:x∈l):zR x≤dU l:=by rw[XD];exact AK h
theorem mD{x:cT}{l:List cT}(h:x∈l):zD x≤sa l:=by rw[XE];exact AK h
theorem mN{x:List a7}{l:List (List a7)}(h:x∈l):tp x≤jX l:=by rw[XF];exact AK h
theorem mO{x:cQ}{l:List cQ}(h:x∈l):zO x≤gC l:=by rw[XG];exact AK h
theorem nX(l:List bM):l.length≤mQ l:=by rw[Xz];exact AL (λx=>by rw[M5];omega) l
theorem nP(l:List fZ):l.length≤vY l:=by rw[XB];exact AL (λx=>by rw[Iq];omega) l
theorem nS(l:List fA):l.length≤vZ l:=by rw[XC];exact AL (λx=>by rw[Ir];omega) l
theorem nC(l:List bu):l.length≤tm l:=by rw[QD];exact AL (λx=>by rw[uq];omega) l
theorem nR(l:List bA):l.length≤dU l:=by rw[XD];exact AL (λx=>by rw[M6];omega) l
theorem nD(l:List cT):l.length≤sa l:=by rw[XE];exact AL (λx=>by rw[CX];omega) l
theorem nN(l:List (List a7)):l.length≤jX l:=by rw[XF];exact AL (λx=>by unfold tp;omega) l
theorem nO(l:List cQ):l.length≤gC l:=by rw[XG];exact AL (λx=>by unfold zO;omega) l
end Go.Proofs.YtfinnnfdojhmnaaGreatDoor
