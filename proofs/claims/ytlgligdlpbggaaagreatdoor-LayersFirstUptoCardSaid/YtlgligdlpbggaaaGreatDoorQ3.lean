/-
  Component values: how large they are, and what a reading says of them. No program in sight.
-/
import Derived.Test.YtlgligdlpbggaaaGreatDoorQ2
import Derived.Test.YtlgligdlpbggaaaGreatDoorX
import Derived.Test.YtlgligdlpbggaaaGreatDoorWFd
import Derived.KernelRfl
set_option linter.unusedVariables false
set_option maxRecDepth 100000
namespace Go.Proofs.YtlgligdlpbggaaaGreatDoor
open Go Go.V Go.RowKit
def zT(x:ct):Nat:=1+(x.cY.length+1)+1+(x.Unit.length+1)+1+1
mutual
def zV:ax→Nat
  | .mk t l=>zT t+(cD l+1)+1
def cD:List ax→Nat
  |[]=>0
  |v::r=>zV v+cD r
end
theorem WQ:∀l:List ax,cD l=(l.map zV).sum
  |[]=>rfl
  |y::l=>by rw[cD,WQ l];rfl
def wfT(x:ct):Prop:=(Lit.int .u8 x.an).wf=true∧x.cY.length≤maxLen∧(Lit.int .i64 x.cS).wf=true∧x.Unit.length≤maxLen∧True
mutual
def LF:ax→Prop
  | .mk t l=>wfT t∧l.length≤maxLen∧Q4 l
def Q4:List ax→Prop
  |[]=>True
  |v::r=>LF v∧Q4 r
end
theorem a2H:∀l:List ax,(∀x∈l,LF x)→Q4 l
  |[],_=>trivial
  |y::l,h=>by
    rw[Q4];exact⟨h y List.mem_cons_self,a2H l λx hx=>h x (List.mem_cons_of_mem _ hx)⟩
mutual
def zX:bL→Nat
 | .mk _ p c=>1+(vl p+1)+(c.length+1)+1
def mA:List bL→Nat
 |[]=>0
 |v::r=>zX v+mA r
def zP:fT→Nat
 | .mk t s=>(t.length+1)+(vm s+1)+1
def vl:List fT→Nat
 |[]=>0
 |v::r=>zP v+vl r
def zS:fq→Nat
 | .mk _ n _ v _ _ _ l=>1+(n.length+1)+1+(v.length+1)+1+(1+1+1)+1+(mA l+1)+1
def vm:List fq→Nat
 |[]=>0
 |v::r=>zS v+vm r
end
def zD(d:cR):Nat:=(d.bm.length+1)+(cD d.Value+1)+1+1
mutual
def zC:bu→Nat
 | .mk _ n _ d l=>1+(n.length+1)+1+zD d+(sR l+1)+1
def sR:List bu→Nat
 |[]=>0
 |v::r=>zC v+sR r
end
def rJ:List cR→Nat
 |[]=>0
 |v::r=>zD v+rJ r
def sS(l:List a6):Nat:=(l.map λx=>x.length+1).sum+1
def jL:List (List a6)→Nat
 |[]=>0
 |v::r=>sS v+jL r
mutual
def zR:bB→Nat
 | .mk _ s d c n l=>1+(mA s+1)+(rJ d+1)+zC c+(jL n+1)+(dT l+1)+1
def dT:List bB→Nat
 |[]=>0
 |v::r=>zR v+dT r
end
def zO(s:gg):Nat:=1+((dT s.iF.bE+1)+1)+1
def jT:List gg→Nat
 |[]=>0
 |v::r=>zO v+jT r
theorem WR:∀l:List bL,(l.map zX).sum+1=mA l+1
 |[]=>by rw[mA];rfl
 |v::r=>by have:=WR r;rw[mA,List.map_cons,List.sum_cons];omega
theorem a2I:∀l:List fT,(l.map zP).sum+1=vl l+1
 |[]=>by rw[vl];rfl
 |v::r=>by have:=a2I r;rw[vl,List.map_cons,List.sum_cons];omega
theorem a2J:∀l:List fq,(l.map zS).sum+1=vm l+1
 |[]=>by rw[vm];rfl
 |v::r=>by have:=a2J r;rw[vm,List.map_cons,List.sum_cons];omega
theorem a2K:∀l:List bu,(l.map zC).sum+1=sR l+1
 |[]=>by rw[sR];rfl
 |v::r=>by have:=a2K r;rw[sR,List.map_cons,List.sum_cons];omega
theorem WS:∀l:List bB,(l.map zR).sum+1=dT l+1
 |[]=>by rw[dT];rfl
 |v::r=>by have:=WS r;rw[dT,List.map_cons,List.sum_cons];omega
theorem a2L:∀l:List Int,(l.map λ_=>1).sum+1=l.length+1
 |[]=>rfl
 |v::r=>by have:=a2L r;rw[List.map_cons,List.sum_cons,fD];omega
theorem a2M(d:cR):(d.bm.length+1)+((d.Value.map zV).sum+1)+1+1=zD d:=by unfold zD;rw[WQ]
theorem a2N:∀l:List cR,(l.map λd=>(d.bm.length+1)+((d.Value.map zV).sum+1)+1+1).sum+1=rJ l+1
 |[]=>rfl
 |v::r=>by have:=a2N r;rw[rJ,List.map_cons,List.sum_cons,a2M];omega
theorem a2O:∀l:List (List a6),(l.map sS).sum+1=jL l+1
 |[]=>rfl
 |v::r=>by have:=a2O r;rw[jL,List.map_cons,List.sum_cons];omega
end Go.Proofs.YtlgligdlpbggaaaGreatDoor
namespace Go.V
def pg(t:Int→Bool):Nat→Nat→Option Int
 |0,_=>none
 |k+1,i=>cond (t i) (some (i:Int)) (pg t k (i+1))
theorem WT{β:Type}{i N:Int}{X Y:Option β}(hi:0≤i):cond (decide (i<N)) (aH (0≤i∧i<N) X) Y=cond (decide (i<N)) X Y:=by
 by_cases h:i<N
 ·rw[bS ⟨hi,h⟩]
 ·rw[dt h];rfl
theorem WU{β:Type}(F:Nat→Int→Option β)(t:Int→Bool)(hit:Int→β)(a2P:β)(N:Int)(n:Nat)(hN:N=n)(hn:n<4611686018427387904)
  (hF:∀kk (i:Int),0≤i→F (kk+1) i=cond (decide (i<N)) (cond (t i) (some (hit i)) (F kk (J (i+1)))) (some a2P)):
  ∀(k i kk:Nat),k=n-i→i≤n→k<kk→F kk (i:Int)=some (((pg t k i).map hit).getD a2P):=by
 subst hN;intro k
 induction k with
 |zero=>
  intro i kk hk hi hkk;obtain⟨kk,rfl⟩:∃q,kk=q+1:=⟨kk-1,by omega⟩;rw[hF kk i (by omega)];have:decide ((i:Int)<n)=false:=dt (by omega);rw[this];rfl
 |succ k ih=>
  intro i kk hk hi hkk;obtain⟨kk,rfl⟩:∃q,kk=q+1:=⟨kk-1,by omega⟩;rw[hF kk i (by omega)];have:decide ((i:Int)<n)=true:=ew (by omega);rw[this,cq (by omega)];simp only[bo];rw[pg];cases t i
  ·simp only[be];exact ih (i+1) kk (by omega) (by omega) (by omega)
  ·rfl
theorem LG(t:Int→Bool):∀(k i:Nat)(r:Int),pg t k i=some r→(i:Int)≤r∧r<(i+k:Nat)
 |0,_,_,h=>by cases h
 |k+1,i,r,h=>by
  rw[pg]at h;cases ht:t i<;>rw[ht]at h
  ·have:=LG t k (i+1) r h;omega
  ·cases h;omega
end Go.V
namespace Go.Proofs.YtlgligdlpbggaaaGreatDoor
open Go Go.V Go.RowKit
def aU:List eL:=(Eb 64).getD []
theorem WV:Eb 64=some aU:=by kernel_rfl
theorem WW:ln aU=((18:Nat):Int):=by kernel_rfl
def find(s:a6):Option Int:=pg (λi=>(gi aU i).bm==s) 18 0
def tY(s:a6):Int×Int:=match find s with
 |none=>(0,6)
 |some i=>(i,0)
theorem a2Q(s:a6):Gz 64 s=some (tY s):=by
 have h:=WU (Kx 64 aU s) (λi=>(gi aU i).bm==s) (λi=>Sum.inl i) (Sum.inr ()) (ln aU) 18 WW (by decide)
  (λkk i hi=>by rw[Kx];exact WT hi) 18 0 64 rfl (by decide) (by decide)
 unfold Gz;rw[WV];simp only[aW];unfold OB;rw[show(0:Int)=((0:Nat):Int)from rfl,h];unfold tY find;cases hf:pg (λi=>(gi aU i).bm==s) 18 0 with
 |none=>rfl
 |some r=>
  have h0:=LG _ _ _ _ hf;have h1:decide (r<0)=false:=dt (by omega);simp only[Option.map_some,Option.getD_some,aW,di];show cond (decide (r<0)) _ _=_;rw[h1];rfl
theorem aeH{s:a6}(h:(tY s).2=0):0≤(tY s).1∧(tY s).1<ln aU:=by
 rw[WW];unfold tY find at h⊢;cases hf:pg (λi=>(gi aU i).bm==s) 18 0 with
 |none=>rw[hf]at h;cases h
 |some r=>
  have h0:=LG _ _ _ _ hf;show 0≤r∧r<_;omega
def Aa(s:a6):Bool:=decide (2<ln s)&&decide (ln s≤64)&&sub s 0 2==[45,45]
theorem a2R(s:a6):Gt s=some (Aa s):=by
 unfold Gt z1 Bk;rw[show ln ([45,45]:a6)=2 from rfl,bS (λh=>⟨by decide,yz h⟩)];simp only[lt_eq,aW];congr 1;unfold Aa;by_cases h2:2<ln s
 ·have:(2:Int)≤ln s:=by omega
  simp[h2,this];cases(sub s 0 2==[45,45])<;>simp
 ·simp[h2]
def CA(s:a6):Bool×Int:=cond (Aa s) (true,0) (cond ((tY s).2 !=0) (false,(tY s).2) ((gi aU (tY s).1).Oh,0))
theorem aeI(s:a6):GA 64 s=some (CA s):=by
 unfold GA;rw[a2R];simp only[aW];unfold CA;cases Aa s
 ·simp only[be];rw[a2Q];simp only[aW];cases h:((tY s).2 !=0)
  ·simp only[be];rw[WV];simp only[aW];rw[bS (aeH (by simpa using h))]
  ·rfl
 ·rfl
theorem LH(l:List a6)(x:a6)(h:l.length<60):xB 64 l x=some (pg (λi=>x==gi l i) l.length 0).isSome:=by
 have h1:=WU (K6 64 l x) (λi=>x==gi l i) (λi=>Sum.inl i) (Sum.inr ()) (ln l) l.length rfl (by omega)
  (λkk i hi=>by rw[K6];exact WT hi) l.length 0 64 rfl (by omega) (by omega)
 unfold xB O3;rw[show(0:Int)=((0:Nat):Int)from rfl,h1];cases hf:pg (λi=>x==gi l i) l.length 0 with
 |none=>rfl
 |some r=>
  have h0:=LG _ _ _ _ hf;have h2:decide (((0:Nat):Int)≤r)=true:=ew (by omega);show some (decide (((0:Nat):Int)≤r))=_;rw[h2];rfl
theorem qx(x:ax):cD x.ae+6<zV x:=by
 obtain⟨t,l⟩:=x;simp only[zV,ax.ae,zT];omega
theorem rK{x:ax}:∀{l:List ax},x∈l→zV x≤cD l
 |[],h=>by cases h
 |y::l,h=>by
  rcases List.mem_cons.1 h with rfl|h
  ·simp only[cD];omega
  ·have:=rK h;simp only[cD];omega
theorem qy:∀l:List ax,l.length≤cD l
 |[]=>dc _
 |y::l=>by have:=qy l;have:=qx y;simp only[cD,fD];omega
theorem qz{α:Type}[Inhabited α]{l:List α}{i:Nat}(h:i<l.length):gi l (i:Int)∈l:=by rw[l9 l i h];exact List.getElem_mem h
def mB(k:Int):Int:=pD k
theorem a2S(k:Int):pc k=mB k:=by
 unfold pc mB pD;simp only[lt_eq];by_cases h2:k=2
 ·subst h2;rfl
 by_cases h19:k=19
 ·subst h19;rfl
 by_cases h21:k=21
 ·subst h21;rfl
 by_cases h23:k=23
 ·subst h23;rfl
 have b2:(k==2)=false:=by simpa using h2
 have Vc:(k==19)=false:=by simpa using h19
 have Ka:(k==21)=false:=by simpa using h21
 have N5:(k==23)=false:=by simpa using h23
 rw[b2,Vc,Ka,N5];rfl
mutual
def Q5:ax→Nat
 | .mk t l=>cond (mB t.an==0) 0 (1+mE l)
def mE:List ax→Nat
 |[]=>0
 |v::r=>max (Q5 v) (mE r)
end
mutual
def LI:ax→Nat
 | .mk t l=>cond (mB t.an==0) 1 (1+jw l+1)
def jw:List ax→Nat
 |[]=>0
 |v::r=>LI v+jw r
end
mutual
def Q6:Int→ax→Bool
 |c,.mk t l=>cond (c !=0) (t.an==c) false||cond (mB t.an==0) (decide (0<ln l)) (tZ (mB t.an) l)
def tZ:Int→List ax→Bool
 |_,[]=>false
 |c,v::r=>Q6 c v||tZ c r
end
theorem a2T(x:ax):Q5 x=cond (mB x.aX.an==0) 0 (1+mE x.ae):=by obtain⟨t,l⟩:=x;rw[Q5];rfl
theorem LJ(x:ax):LI x=cond (mB x.aX.an==0) 1 (1+jw x.ae+1):=by obtain⟨t,l⟩:=x;rw[LI];rfl
theorem aeJ(c:Int)(x:ax):Q6 c x=(cond (c !=0) (x.aX.an==c) false||cond (mB x.aX.an==0) (decide (0<ln x.ae)) (tZ (mB x.aX.an) x.ae)):=by obtain⟨t,l⟩:=x;rw[Q6];rfl
theorem aeK{l:List ax}{i:Nat}(h:i<l.length):mE (l.drop i)=max (Q5 (gi l (i:Int))) (mE (l.drop (i+1))):=by
 rw[rX h,mE,l9 l i h]
theorem WX{l:List ax}{i:Nat}(h:i<l.length):jw (l.drop i)=LI (gi l (i:Int))+jw (l.drop (i+1)):=by
 rw[rX h,jw,l9 l i h]
theorem aeL(c:Int){l:List ax}{i:Nat}(h:i<l.length):tZ c (l.drop i)=(Q6 c (gi l (i:Int))||tZ c (l.drop (i+1))):=by
 rw[rX h,tZ,l9 l i h]
theorem WY(n:Nat):∀v:List ax,cD v≤n→jw v≤cD v∧mE v≤cD v:=by
 induction n with
 |zero=>
  intro v h;cases v with
  |nil=>exact⟨dc _,dc _⟩
  |cons x r=>have:=qx x;simp only[cD]at h;omega
 |succ n ih=>
  intro v
  induction v with
  |nil=>intro _;exact⟨dc _,dc _⟩
  |cons x r ET=>
   intro h;have hk:=qx x;rw[cD]at h;have h1:=ET (by omega);have h2:=ih x.ae (by omega);rw[jw,cD,mE,LJ,a2T];cases(mB x.aX.an==0)<;>simp only[bo,be]<;>omega
theorem aeM(m:Nat)(v:List ax)(c:Int)(rec:List ax→Int→Option xz)(hl:cD v≤1048576)(hr:∀x∈v,∀c,rec x.ae c=some ⟨((mE x.ae:Nat):Int),((jw x.ae:Nat):Int),tZ c x.ae⟩):
  ∀(kk i a t:Nat)(b:Bool),v.length-i<kk→i≤v.length→a≤1048577→t+jw (v.drop i)≤1048577→
   JO m v c rec kk (i:Int) (a:Int) (t:Int) b=some (((max a (mE (v.drop i)):Nat):Int),((t+jw (v.drop i):Nat):Int),b||tZ c (v.drop i)):=by
 have hlen:=qy v;intro kk
 induction kk with
 |zero=>intro i a t b h;omega
 |succ kk ih=>
  intro i a t b h hi ha wU;rw[JO];by_cases h1:i<v.length
  ·have hm:=qz h1;have hz:=rK hm;have hk:=qx (gi v (i:Int));have aiV:=WY _ (gi v (i:Int)).ae (dc _);rw[WX h1,LJ]at wU;rw[jP h1,bo,gV h1,lt_eq,lt_eq,aeL c h1,aeJ,aeK h1,a2T,WX h1,LJ,a2S,hr _ hm];have wi:J ((i:Int)+1)=((i+1:Nat):Int):=cq (by omega);have aiW:t+1≤1048577:=by
    cases hq:(mB (gi v (i:Int)).aX.an==0)<;>rw[hq]at wU<;>simp only[bo,be]at wU<;>omega
   have w1:J ((t:Int)+1)=((t+1:Nat):Int):=cq (by omega);unfold bne;cases hc:(mB (gi v (i:Int)).aX.an==0)
   ·rw[hc]at wU;simp only[be]at wU;have w2:J (((mE (gi v (i:Int)).ae:Nat):Int)+1)=((mE (gi v (i:Int)).ae+1:Nat):Int):=cq (by omega);have w3:J (J (J ((t:Int)+1)+((jw (gi v (i:Int)).ae:Nat):Int))+1)=((t+(1+jw (gi v (i:Int)).ae+1):Nat):Int):=by
     rw[w1,nn (x:=((t+1:Nat):Int)+_) (by omega) (by omega),nn (by omega) (by omega)];omega
    have e:(if(a:Int)<((mE (gi v (i:Int)).ae+1:Nat):Int)then((mE (gi v (i:Int)).ae+1:Nat):Int)else(a:Int))=((max a (1+mE (gi v (i:Int)).ae):Nat):Int):=by split<;>omega
    have WZ:=λb=>ih (i+1) (max a (1+mE (gi v (i:Int)).ae)) (t+(1+jw (gi v (i:Int)).ae+1)) b (by omega) (by omega) (by omega) (by omega);cases hz:(c==0)<;>cases hk:((gi v (i:Int)).aX.an==c)<;>cases hs:tZ (mB (gi v (i:Int)).aX.an) (gi v (i:Int)).ae<;>cases b<;>
     simp only[ul,px,bo,be,aW,lt_eq,IV,Bool.true_or,Bool.or_false,Bool.or_true,w2,w3,wi,e,WZ]<;>simp only[Nat.max_assoc,Nat.add_assoc]
   ·rw[hc]at wU;simp only[bo]at wU;have WZ:=λb=>ih (i+1) a (t+1) b (by omega) (by omega) (by omega) (by omega);cases hz:(c==0)<;>cases hk:((gi v (i:Int)).aX.an==c)<;>cases hs:decide (0<ln (gi v (i:Int)).ae)<;>cases b<;>
     simp only[ul,px,bo,be,aW,lt_eq,IV,Bool.true_or,Bool.or_false,Bool.or_true,w1,wi,WZ]<;>simp only[Nat.zero_max,Nat.add_assoc]
  ·rw[iQ (by omega),be,IU (by omega),tZ,mE,jw,Bool.or_false,Nat.max_zero,Nat.add_zero]
theorem a2U(m:Nat)(hm:1048577<m):∀(k:Nat)(v:List ax)(c:Int),cD v<k→cD v≤1048576→DN m k v c=some ⟨((mE v:Nat):Int),((jw v:Nat):Int),tZ c v⟩:=by
 intro k
 induction k with
 |zero=>intro v c h;omega
 |succ k ih=>
  intro v c h hb;have hl:=qy v;have hk:=(WY _ v (dc _)).1;have hn:=aeM m v c (DN m k) hb (λx hx c=>by
   have h1:=rK hx;have h2:=qx x;exact ih _ _ (by omega) (by omega)) m 0 0 0 false (by omega) (by omega) (by omega) (by rw[pw];omega)
  rw[DN];rw[show(0:Int)=((0:Nat):Int)from rfl,hn,aW,pw,Nat.zero_max,Nat.zero_add,IV]
def EU(v:List ax):Int:=if 16<mE v then 20 else if 1500<jw v then 4 else if tZ 0 v then 8 else 0
theorem Q7(m:Nat)(hm:1048577<m)(v:List ax)(hb:cD v≤1048576):Bj m v=some (EU v):=by
 unfold Bj JR EU;rw[a2U m hm m v 0 (by omega) hb,aW];have e1:decide ((16:Int)<((mE v:Nat):Int))=decide (16<mE v):=by simp;omega
 have e2:decide ((1500:Int)<((jw v:Nat):Int))=decide (1500<jw v):=by simp;omega
 show cond (decide ((16:Int)<((mE v:Nat):Int))) _ _=_;rw[e1,e2];by_cases h1:16<mE v
 ·simp[h1]
 ·by_cases h2:1500<jw v
  ·simp[h1,h2]
  ·cases tZ 0 v<;>simp[h1,h2]
theorem aeN(m:Nat)(v:List ax)(rec:List ax→Option (List ax))(hl:cD v≤1048576)(hr:∀x∈v,rec x.ae=some x.ae):
  ∀(kk i:Nat),v.length-i<kk→i≤v.length→KW m v rec kk (v.take i) (i:Int)=some v:=by
 have hlen:=qy v;intro kk
 induction kk with
 |zero=>intro i h;omega
 |succ kk ih=>
  intro i h hi;rw[KW];by_cases h1:i<v.length
  ·rw[jP h1,bo,gV h1,hr _ (qz h1),aW,bS (by unfold ln;rw[List.length_take];simp only[fD,il];omega),lt_eq,cq (by omega)];have e:v.take i++[ax.mk (gi v (i:Int)).aX (gi v (i:Int)).ae]=v.take (i+1):=by
    rw[List.take_succ_eq_append_getElem h1,l9 v i h1];obtain⟨t,l⟩:=v[i];rfl
   rw[e];exact ih (i+1) (by omega) (by omega)
  ·rw[iQ (by omega),be,List.take_of_length_le (by omega)]
theorem aeO(m:Nat)(hm:1048577<m):∀(k:Nat)(v:List ax),cD v<k→cD v≤1048576→Er m k v=some v:=by
 intro k
 induction k with
 |zero=>intro v h;omega
 |succ k ih=>
  intro v h hb;have hl:=qy v;have hn:=aeN m v (Er m k) hb (λx hx=>by
   have h1:=rK hx;have h2:=qx x;exact ih _ (by omega) (by omega)) m 0 (by omega) (by omega)
  rw[List.take_zero]at hn;rw[Er];rw[show(0:Int)=((0:Nat):Int)from rfl,hn,aW]
abbrev FU:Nat:=1100000
theorem X0:1048577<FU:=by decide
def jM:a6:=[109,97,114,103,105,110]
def xW(w:a6):Bool:=cond (w==[98,111,114,100,101,114]) true (cond (w==[111,117,116,108,105,110,101]) true (w==[98,97,99,107,103,114,111,117,110,100]))
def Q8:List a6:=[[109,97,114,103,105,110,45,116,111,112],[109,97,114,103,105,110,45,114,105,103,104,116],[109,97,114,103,105,110,45,98,111,116,116,111,109],[109,97,114,103,105,110,45,108,101,102,116]]
def lH(w:a6):List a6×Int:=cond (w==jM) (Q8,0) (cond (xW w) ([w++[45,99,111,108,111,114]],0) (cond ((CA w).2 !=0) ([],6) ([w],0)))
theorem aeP(w:a6):(CA w).2=0∨(CA w).2=6:=by
 unfold CA;cases Aa w
 ·rw[be];unfold tY;cases find w with
  |none=>exact Or.inr rfl
  |some r=>exact Or.inl rfl
 ·exact Or.inl rfl
theorem X1(a b c d x:a6):(pg (λi=>x==gi [a,b,c,d] i) 4 0).isSome=cond (x==a) true (cond (x==b) true (cond (x==c) true (x==d))):=by
 simp only[pg];rw[show gi [a,b,c,d] ((0:Nat):Int)=a from rfl,show gi [a,b,c,d] ((0+1:Nat):Int)=b from rfl,show gi [a,b,c,d] ((0+1+1:Nat):Int)=c from rfl,show gi [a,b,c,d] ((0+1+1+1:Nat):Int)=d from rfl];cases(x==a)<;>cases(x==b)<;>cases(x==c)<;>cases(x==d)<;>rfl
theorem aeQ(w:a6)(hw:w.length≤1048576):Ky 64 w=some (lH w):=by
 unfold Ky Bu lH;rw[lt_eq,LH zo w (by decide),aW];rw[show(pg (λi=>w==gi zo i) zo.length 0).isSome=cond (w==jM) true (xW w)from X1 _ _ _ _ w];cases hm:(w==jM)
 ·rw[be,lt_eq];cases hs:xW w
  ·rw[ul,bo,aW,be];show Option.bind (GA 64 w) _=_;rw[aeI,aW];rcases aeP w with h|h<;>rw[h]<;>rfl
  ·rw[px,be,show(!(w==([109,97,114,103,105,110]:a6)))=true from by rw[show(w==([109,97,114,103,105,110]:a6))=false from hm];rfl,bo,bS (by unfold ln;simp only[fD,il];omega),aW];rfl
 ·have e:w=jM:=eq_of_beq hm;subst e;rw[show Kn 64 jM 64 [] 0=some Q8 from by kernel_rfl];rfl
theorem aeR(w:a6):(lH w).1.length≤4:=by
 unfold lH;cases(w==jM)<;>cases xW w<;>cases((CA w).2 !=0)<;>exact Nat.le_of_ble_eq_true rfl
theorem aeS{s:a6}{i:Nat}(h:i<s.length):s.drop i=s[i]::s.drop (i+1):=rX h
theorem a2V{p:Nat→Bool}{k n:Nat}(h:((List.range k).all p)=true)(hn:n<k):p n=true:=List.all_eq_true.1 h n (List.mem_range.2 hn)
theorem aeT{s:a6}{i:Nat}(h:i<s.length):sub s (i:Int) ((i+1:Nat):Int)=[s[i]]:=by
  unfold sub;rw[Int.toNat_natCast,Int.toNat_natCast,show i+1-i=1 from by omega,aeS h];rfl
abbrev Ab(x:cT):Prop:=(Lit.int .u8 x.jr).wf=true∧(Lit.int .u8 x.js).wf=true∧(Lit.int .u8 x.jt).wf=true∧(Lit.int .u8 x.ju).wf=true
def c0:cT:=cT.mk 0 0 0 0
theorem aeU(x:ax):x.aX.cY.length≤zV x∧x.aX.Unit.length≤zV x:=by
  obtain⟨t,l⟩:=x;simp only[zV,zT,ax.aX];omega
theorem aeV(m:Nat)(s:a6)(hs:s.length≤1048576):∀(kk i:Nat)(b:List Int),s.length-i<kk→i≤s.length→∃r,KC m s kk (i:Int) b=some r:=by
  intro kk
  induction kk with
  |zero=>intro i b h;omega
  |succ kk ih=>
    intro i b h hi;have hl:(bD s).length=s.length:=by simp[bD]
    rw[KC];by_cases h1:i<s.length
    · rw[jP (by rw[hl];exact h1),bo,gV (by rw[hl];exact h1),lt_eq,cq (by omega)];cases(cond (decide (65≤gi b (i:Int))) (decide (gi b (i:Int)≤90)) false)
      · exact ih (i+1) _ (by omega) (by omega)
      · exact ih (i+1) _ (by omega) (by omega)
    · rw[iQ (by rw[hl];omega),be];exact⟨_,rfl⟩
theorem Q9(s:a6)(hs:s.length≤1048576):∃r,BG FU s=some r:=by
  obtain⟨r,h⟩:=aeV FU s hs FU 0 (bD s) (by unfold FU;omega) (iW _);exact⟨jn r,by unfold BG;rw[show(0:Int)=((0:Nat):Int)from rfl,h];rfl⟩
theorem CB(x:Int):(Lit.int .u8 (cU x)).wf=true:=by
  have h1:0≤cU x∧cU x<256:=by rw[ZG];omega
  have h2:IntKind.u8.min=0:=by decide
  have h3:IntKind.u8.max=255:=by decide
  simp only[Lit.wf,h2,h3,Bool.and_eq_true,decide_eq_true_eq];omega
def X2(c:cT):Bool:=(Lit.int .u8 c.jr).wf&&(Lit.int .u8 c.js).wf&&(Lit.int .u8 c.jt).wf&&(Lit.int .u8 c.ju).wf
theorem a2W{c:cT}(h:X2 c=true):Ab c:=by
  unfold X2 at h;simp only[Bool.and_eq_true]at h;exact⟨h.1.1.1,h.1.1.2,h.1.2,h.2⟩
theorem I4:Ab c0:=a2W (by decide)
theorem aeW:((List.range 9).all λ(n:Nat)=>X2 (cT.mk (gi ([0,255,255,0,0,255,128,0,0]:List Int) (n:Int)) (gi ([0,255,0,255,0,255,128,0,0]:List Int) (n:Int)) (gi ([0,255,0,0,255,0,128,0,0]:List Int) (n:Int)) (gi ([255,255,255,255,255,255,255,0,0]:List Int) (n:Int))))=true:=by kernel_rfl
theorem aeX(s:a6)(hs:s.length≤1048576):∃c e,KD FU s=some (c,e)∧Ab c:=by
  obtain⟨y,hy⟩:=Q9 s hs;unfold KD;rw[hy];simp only[lt_eq,aW];have hk:=MO ([[98,108,97,99,107],[119,104,105,116,101],[114,101,100],[108,105,109,101],[98,108,117,101],[121,101,108,108,111,119],[103,114,97,121],[116,114,97,110,115,112,97,114,101,110,116]]:List a6) y;unfold qP;generalize kx ([[98,108,97,99,107],[119,104,105,116,101],[114,101,100],[108,105,109,101],[98,108,117,101],[121,101,108,108,111,119],[103,114,97,121],[116,114,97,110,115,112,97,114,101,110,116]]:List a6) y=n at*;have hn:n<9:=by simp only[fD,il]at hk;omega
  have hw:=a2W (a2V aeW hn);cases(!(decide ((n:Int)<8)))
  · exact⟨_,_,rfl,hw⟩
  · exact⟨_,_,rfl,I4⟩
/-! ## Hashes -/
def CC(n:Int):Bool:=cond (cond (cond (decide (n<48)) true (decide (57<n))) (cond (decide (n<97)) true (decide (102<n))) false) (cond (decide (n<65)) true (decide (70<n))) false
def Qa(n:Int):Option Int:=cond (cond (n==95) ((16:Int)==0) false) none (cond (cond (decide (48≤n)) (decide (n≤57)) false) (some (cU (n-48))) (cond (cond (decide (97≤iy n)) (decide (iy n≤122)) false) (some (cU (cU (iy n-97)+10))) none))
theorem aeY:((List.range 256).all λ(n:Nat)=>CC (n:Int)||(match Qa (n:Int)with
    |some d=>decide (0≤d)&&decide (d<16)
    |none=>false))=true:=by kernel_rfl
theorem aeZ{n:Nat}(hn:n<256)(h:CC (n:Int)=false):∃d:Nat,d<16∧Qa (n:Int)=some (d:Int):=by
  have h1:=a2V aeY hn;rw[h,IV]at h1;cases hv:Qa (n:Int)with
  |none=>rw[hv]at h1;cases h1
  |some d=>
    rw[hv]at h1;simp only[Bool.and_eq_true,decide_eq_true_eq]at h1;exact⟨d.toNat,by omega,by rw[show((d.toNat:Nat):Int)=d from by omega]⟩
theorem af0(m:Nat)(z:a6)(hl:z.length=8)(hz:∀b∈z,CC (b.toNat:Int)=false):∀(kk i v:Nat),8-i<kk→i≤8→v<16^i→
    ∃v':Int,Ef m 16 (z,16) 1152921504606846976 4294967296 kk false (v:Int) (i:Int)=some (.inr (false,v')):=by
  intro kk
  induction kk with
  |zero=>intro i v h;omega
  |succ kk ih=>
    intro i v h hi hv;rw[Ef];have dU:(bD z).length=8:=by unfold bD;rw[List.length_map,hl]
    by_cases h1:i<8
    · have Iv:i<z.length:=by omega
      have hg:gi (bD z) (i:Int)=((z[i].toNat:Nat):Int):=by
        rw[l9 _ i (by omega)];unfold bD;rw[List.getElem_map]
      obtain⟨d,hdi,Ac⟩:=aeZ z[i].toNat_lt (hz _ (List.getElem_mem Iv));generalize((z[i].toNat:Nat):Int)=c at*;have e8:16^8=4294967296:=by decide
      have hp:16^(i+1)≤16^8:=Nat.pow_le_pow_right (by decide) (by omega);have hp1:16^(i+1)=16^i*16:=Nat.pow_succ ..;have hv2:16*v+d<16^(i+1):=by omega
      rw[show decide ((i:Int)<ln (bD z))=true from jP (by omega),bo,gV (by omega:i<(bD z).length)];show∃v':Int,Option.bind (Option.bind (lt (cond (gi (bD z) (i:Int)==95) ((16:Int)==0) false) _) _) _=_;rw[hg,lt_eq];have IJ:(cond (cond (c==95) ((16:Int)==0) false) (Option.bind (some (Sum.inr (true,(v:Int)))) λOH=>some (Sum.inl OH)) (
          lt (cond (decide (48≤c)) (decide (c≤57)) false) λOI=>
          cond OI (some (Sum.inr (false,cU (c-48)))) (
          lt (decide (97≤iy c)) λzj=>
          lt (cond zj (decide (iy c≤122)) false) λOJ=>
          cond OJ (lt (cU (iy c-97)) λKG=>some (Sum.inr (false,cU (KG+10)))) none)):Option (Sum (Sum (Sum Int (Bool×Int)) (Bool×Int)) (Bool×Int)))=some (.inr (false,(d:Int))):=by
        simp only[lt_eq];unfold Qa at Ac
        revert Ac
        generalize(cond (c==95) ((16:Int)==0) false)=b1;generalize(cond (decide (48≤c)) (decide (c≤57)) false)=b2;generalize(cond (decide (97≤iy c)) (decide (iy c≤122)) false)=b3;intro Ac;cases b1
        · cases b2
          · cases b3
            · cases Ac
            · have:=Option.some.inj Ac;simp only[be,bo,this]
          · have:=Option.some.inj Ac;simp only[be,bo,this]
        · cases Ac
      rw[IJ,aW];have c1:decide ((16:Int)≤(d:Int))=false:=dt (by omega);have c2:decide ((1152921504606846976:Int)≤(v:Int))=false:=dt (by omega);have w1:cF ((v:Int)*cF 16)=((16*v:Nat):Int):=by rw[show cF 16=16 from rfl,AH (by omega) (by omega)];omega
      have w2:cF (((16*v:Nat):Int)+cF (d:Int))=((16*v+d:Nat):Int):=by rw[AH (x:=(d:Int)) (by omega) (by omega),AH (by omega) (by omega)];omega
      show∃v':Int,Option.bind (cond (decide (cU 16≤(d:Int))) none (cond (decide ((1152921504606846976:Int)≤(v:Int))) none _)) _=_;rw[show cU 16=16 from rfl,c1,be,c2,be];show∃v':Int,Option.bind (lt (cF (cF ((v:Int)*cF 16)+cF (d:Int))) _) _=_;rw[w1,w2,lt_eq,dt (show¬((16*v+d:Nat):Int)<((16*v:Nat):Int)from by omega),lt_eq];show∃v':Int,Option.bind (lt (decide (cF ((4294967296:Int)-1)<((16*v+d:Nat):Int))) _) _=_;rw[show cF ((4294967296:Int)-1)=4294967295 from rfl,dt (by omega),lt_eq,be,aW,cq (by omega)];exact ih (i+1) (16*v+d) (by omega) (by omega) hv2
    · have hi8:i=8:=by omega
      subst hi8;rw[show decide (((8:Nat):Int)<ln (bD z))=false from iQ (by omega),be];exact⟨_,rfl⟩
theorem af1(z:a6)(hl:z.length=8)(hz:∀b∈z,CC (b.toNat:Int)=false):∃n,Ei FU z 16 32=some n:=by
  obtain⟨v',h⟩:=af0 FU z hl hz FU 0 0 (by decide) (by decide) (by decide);have hQ:(z==[])=false:=by
    cases z with
    |nil=>cases hl
    |cons d r=>rfl
  unfold Ei OK;rw[hQ,be];show∃n,Option.bind (Option.bind (Ef FU 16 (z,16) 1152921504606846976 4294967296 FU false 0 0) _) _=_;rw[show Ef FU 16 (z,16) 1152921504606846976 4294967296 FU false 0 0=_ from h];exact⟨_,rfl⟩
theorem af2(m:Nat)(s:a6)(hs:s.length≤10):∀(kk i:Nat)(a:a6),s.length-i<kk→i≤s.length→a.length≤2*i→∃r,GF m s kk a (i:Int)=some r∧r.length≤2*s.length:=by
  intro kk
  induction kk with
  |zero=>intro i a h;omega
  |succ kk ih=>
    intro i a h hi ha;rw[GF];by_cases h1:i<s.length
    · rw[jP h1,bo,cq (by omega),bS ⟨by omega,by omega,by unfold ln;omega⟩,aeT h1,bS (by unfold ln;simp),lt_eq,bS (by unfold ln;simp only[fR,fD,il];omega)];exact ih (i+1) _ (by omega) (by omega) (by simp only[fR,fD,il];omega)
    · rw[iQ (by omega),be];exact⟨_,rfl,by omega⟩
theorem af3(m:Nat)(z:a6)(hs:z.length≤10):∀(kk i:Nat),z.length-i<kk→i≤z.length→(∀b∈z.take i,CC (b.toNat:Int)=false)→
    tT m z kk (i:Int)=some (.inl (c0,false))∨(tT m z kk (i:Int)=some (.inr ())∧∀b∈z,CC (b.toNat:Int)=false):=by
  intro kk
  induction kk with
  |zero=>intro i h;omega
  |succ kk ih=>
    intro i h hi ht;by_cases h1:i<z.length
    · have e:tT m z (kk+1) (i:Int)=cond (CC ((z[i].toNat:Nat):Int)) (some (.inl (c0,false))) (tT m z kk ((i+1:Nat):Int)):=by
        rw[tT,jP h1,bo,gV h1,a5N z i h1,lt_eq,lt_eq,lt_eq,cq (by omega)];rfl
      rw[e];cases hh:CC ((z[i].toNat:Nat):Int)
      · refine ih (i+1) (by omega) (by omega) λb hb=>?_;rw[List.take_succ_eq_append_getElem h1]at hb;rcases List.mem_append.1 hb with hb|hb
        · exact ht b hb
        · rw[List.mem_singleton.1 hb];exact hh
      · exact Or.inl rfl
    · rw[tT,iQ (by omega),be];rw[List.take_of_length_le (by omega)]at ht;exact Or.inr ⟨rfl,ht⟩
theorem af4(s:a6)(hs:s.length≤1048570):∃c b,KH FU s=some (c,b)∧Ab c:=by
  have key:∀z:a6,z.length≤1048576→∃c b,(cond (ln z !=8) (some (cT.mk 0 0 0 0,false)) (
      Option.bind (tT FU z FU 0) λ(z51:Sum (cT×Bool) Unit)=>di z51 λKI=>
      Option.bind (Ei FU z 16 32) λeS=>
      some (cT.mk (cU (Int.fdiv eS (2^24))) (cU (Int.fdiv eS (2^16))) (cU (Int.fdiv eS (2^8))) (cU eS),true)):Option (cT×Bool))=some (c,b)∧Ab c:=by
    intro z hz;by_cases h8:ln z=8
    · rw[h8,bne_self_eq_false,be];have hl:z.length=8:=by unfold ln at h8;omega
      rcases af3 FU z (by omega) FU 0 (by unfold FU;omega) (iW _) (λ_ h=>by cases h)with h|⟨h,yq⟩
      · rw[show tT FU z FU 0=_ from h];exact⟨_,_,rfl,I4⟩
      · rw[show tT FU z FU 0=_ from h];obtain⟨n,hn⟩:=af1 z hl yq;rw[hn];exact⟨_,_,rfl,CB _,CB _,CB _,CB _⟩
    · rw[show(ln z !=8)=true from bne_iff_ne.2 h8];exact⟨_,_,rfl,I4⟩
  have k2:∀z:a6,z.length≤1048570→∃c b,(Option.bind (cond (ln z==6) (aH (ln z+ln ([102,102]:a6)≤9223372036854775807) (some (z++[102,102]))) (some z)) λ(dN:a6)=>
      cond (ln dN !=8) (some (cT.mk 0 0 0 0,false)) (
      Option.bind (tT FU dN FU 0) λ(z51:Sum (cT×Bool) Unit)=>di z51 λKI=>
      Option.bind (Ei FU dN 16 32) λeS=>
      some (cT.mk (cU (Int.fdiv eS (2^24))) (cU (Int.fdiv eS (2^16))) (cU (Int.fdiv eS (2^8))) (cU eS),true)):Option (cT×Bool))=some (c,b)∧Ab c:=by
    intro z hz;cases(ln z==6)
    · rw[be,aW];exact key z (by omega)
    · rw[bo,bS (by unfold ln;simp only[fD,il];omega),aW];exact key _ (by simp only[fR,fD,il];omega)
  unfold KH;by_cases Qb:ln s=3∨ln s=4
  · have hl:s.length≤10:=by unfold ln at Qb;omega
    have hc:cond (ln s==3) true (ln s==4)=true:=by
      rcases Qb with h|h<;>rw[h]<;>rfl
    obtain⟨r,hr,hrl⟩:=af2 FU s hl FU 0 [] (by unfold FU;omega) (iW _) (iW _);rw[hc,bo,show GF FU s FU [] 0=_ from hr,aW,aW];exact k2 r (by omega)
  · have hc:cond (ln s==3) true (ln s==4)=false:=by
      rw[show(ln s==3)=false from rW.2 (λh=>Qb (Or.inl h)),show(ln s==4)=false from rW.2 (λh=>Qb (Or.inr h))];rfl
    rw[hc,be,aW];exact k2 s hs
/-! ## Functions -/
def cn(s:a6):Nat:=s.countP λb=>b==110
theorem a2X(a:a6)(b:UInt8):cn (a++[b])=cn a+cond (b==110) 1 0:=by
  unfold cn;rw[List.countP_append];cases h:(b==110)<;>simp[h]
theorem af5(t:ct)(u:a6)(l:List Int)(hu:u.length≤1048576)(hl:l.length=cn u):∃u' l',KJ t u l=some (u',l')∧u'.length≤u.length+1∧l'.length=cn u':=by
  have hcu:cn u≤u.length:=List.countP_le_length;have ap:∀b:UInt8,(u++[b]).length≤u.length+1:=λb=>by simp
  have no:∀b:UInt8,(b==110)=false→l.length=cn (u++[b]):=λb h=>by rw[a2X,h,hl];rfl
  unfold KJ;have ck:∀{α:Type}(b:α),ln u+ln [b]≤9223372036854775807:=λb=>by unfold ln;simp only[fD,il];omega
  cases(t.an==13)
  · rw[be];cases(t.an==10)
    · rw[be];cases(t.an==18)
      · rw[be,lt_eq];cases(cond (t.an==9) (t.cY==[47]) false)
        · rw[be,bS (ck _)];exact⟨_,_,rfl,ap _,no 120 rfl⟩
        · rw[bo,bS (ck _)];exact⟨_,_,rfl,ap _,no 47 rfl⟩
      · rw[bo,bS (ck _)];exact⟨_,_,rfl,ap _,no 44 rfl⟩
    · rw[bo,bS (ck _),bS (by unfold ln;simp only[fD,il];omega),lt_eq];refine⟨_,_,rfl,ap _,?_⟩;rw[a2X,fR,hl];rfl
  · exact⟨_,_,rfl,by omega,hl⟩
theorem af6(m:Nat)(l:List ax)(hl:l.length≤1048576):∀(kk i:Nat)(ns:List Int)(u:a6),l.length-i<kk→i≤l.length→u.length≤i→ns.length=cn u→
    ∃u' ns',GH m l kk (i:Int) ns u=some (u',ns')∧ns'.length=cn u':=by
  intro kk
  induction kk with
  |zero=>intro i ns u h;omega
  |succ kk ih=>
    intro i ns u h hi hu hn;rw[GH];by_cases h1:i<l.length
    · obtain⟨u',l',e1,e2,e3⟩:=af5 (gi l (i:Int)).aX u ns (by omega) hn;rw[jP h1,bo,gV h1,e1,aW,cq (by omega)];exact ih (i+1) l' u' (by omega) (by omega) (by omega) e3
    · rw[iQ (by omega),be];exact⟨_,_,rfl,hn⟩
theorem X3(u:List Int)(i:Nat)(hi:i<u.length):∃x,tU (i:Int) u=some (cU x):=by
  unfold tU;rw[gV hi,lt_eq];exact⟨_,rfl⟩
theorem af7(l:List ax)(hl:l.length≤1048576):∃c b,KK FU l=some (c,b)∧Ab c:=by
  obtain⟨u,ns,h1,h2⟩:=af6 FU l hl FU 0 [] [] (by unfold FU;omega) (iW _) (iW _) rfl;have fin:∀q:List Int,q.length=4→∃c b,(Option.bind (tU 0 q) λwJ=>
      Option.bind (tU 1 q) λwK=>
      Option.bind (tU 2 q) λwL=>
      aH (0≤(3:Int)∧(3:Int)<ln q)<|
      lt (if(gi q (3:Int))<1000 then(gi q (3:Int))else 1000) λpP=>
      lt (J (Int.tdiv (J ((if 0<pP then pP else 0)*255)) 1000)) λxO=>
      some (cT.mk wJ wK wL (cU xO),true))=some (c,b)∧Ab c:=by
    intro q hq;obtain⟨a,ha⟩:=X3 q 0 (by omega);obtain⟨b,hb⟩:=X3 q 1 (by omega);obtain⟨c,hc⟩:=X3 q 2 (by omega);rw[show tU 0 q=_ from ha,aW,show tU 1 q=_ from hb,aW,show tU 2 q=_ from hc,aW,bS ⟨by decide,by unfold ln;omega⟩,lt_eq,lt_eq];exact⟨_,_,rfl,CB _,CB _,CB _,CB _⟩
  have e0:∀w:a6,(u==w)=true→ns.length=cn w:=λw h=>by rw[←eq_of_beq h];exact h2
  unfold KK;rw[show GH FU l FU 0 [] []=_ from h1,aW];dsimp only;have three:(cond (u==[110,110,110]) (some (u==[110,110,110])) (some (u==[110,44,110,44,110])):Option Bool)=some (u==[110,110,110]||u==[110,44,110,44,110]):=by
    cases(u==[110,110,110])<;>rfl
  have four:(cond (u==[110,110,110,47,110]) (some (u==[110,110,110,47,110])) (lt (u==[110,44,110,44,110,44,110]) λrv=>some rv):Option Bool)=some (u==[110,110,110,47,110]||u==[110,44,110,44,110,44,110]):=by
    rw[lt_eq];cases(u==[110,110,110,47,110])<;>rfl
  rw[three,aW,four];cases h3:(u==[110,110,110]||u==[110,44,110,44,110])
  · rw[be,aW];cases h4:(u==[110,110,110,47,110]||u==[110,44,110,44,110,44,110])
    · exact⟨_,_,rfl,I4⟩
    · rw[bo,aW];refine fin ns ?_;rcases Bool.or_eq_true _ _|>.mp h4 with h|h
      · exact e0 _ h
      · exact e0 _ h
  · have hl3:ns.length=3:=by
      rcases Bool.or_eq_true _ _|>.mp h3 with h|h
      · exact e0 _ h
      · exact e0 _ h
    rw[bo,bS (by unfold ln;simp only[fD,il];omega),lt_eq,aW];exact fin (ns++[1000]) (by simp only[fR,fD,il];omega)
theorem af8(v:ax)(hv:zV v≤1048576):∃c b,KL FU v=some (c,b)∧Ab c:=by
  have ht:v.aX.cY.length+6≤zV v:=by
    obtain⟨t,l⟩:=v;simp only[zV,zT,ax.aX];omega
  have hk:=qx v;have hl:=qy v.ae;unfold KL;cases(v.aX.an==1)
  · rw[be];cases(v.aX.an==4)
    · rw[be];cases(v.aX.an==2)
      · exact⟨_,_,rfl,I4⟩
      · obtain⟨y,hy⟩:=Q9 v.aX.cY (by omega);rw[bo,hy,aW,lt_eq];cases(cond (y==[114,103,98]) true (y==[114,103,98,97]))
        · exact⟨_,_,rfl,I4⟩
        · obtain⟨c,b,h1,h2⟩:=af7 v.ae (by omega);rw[bo,h1];exact⟨c,b,rfl,h2⟩
    · obtain⟨c,b,h1,h2⟩:=af4 v.aX.cY (by omega);rw[bo,h1];exact⟨c,b,rfl,h2⟩
  · obtain⟨c,e,h1,h2⟩:=aeX v.aX.cY (by omega);rw[bo,h1];exact⟨c,_,rfl,h2⟩
theorem EV{β:Type}(a b:List cg)(k:Option β)(ha:a.length≤10)(hb:b.length≤10):aH (ln a+ln b≤137438953472) k=k:=bS (by unfold ln;omega)
theorem af9(v:ax)(hv:zV v≤1048576):∃l,GI FU v=some l∧l.length≤4:=by
  have ht:v.aX.cY.length≤1048576∧v.aX.Unit.length≤1048576:=by have:=aeU v;omega
  obtain⟨c,b,h1,hw⟩:=af8 v hv;unfold GI;rw[h1,aW];dsimp only;have afa:∃q:List cg,(cond b (aH (ln ([]:List cg)+ln ([cg.mk 7 [] 0 c]:List cg)≤137438953472) (lt (([]:List cg)++([cg.mk 7 [] 0 c]:List cg)) λr7=>some r7)) (some ([]:List cg)):Option (List cg))=some q∧q.length≤1:=by
    cases b
    · exact⟨[],rfl,by decide⟩
    · rw[bo,EV _ _ _ (by decide) (by simp),lt_eq];exact⟨_,rfl,by simp⟩
  obtain⟨q,hq,ql⟩:=afa;rw[hq,aW];have xX:∀(z:List cg)(x:cg)(k:Nat),z.length≤k→(z++[x]).length≤k+1:=λz x k h=>by simp only[fR,fD,il];omega
  cases(v.aX.an==1)
  · rw[be];cases(v.aX.an==12)
    · rw[be];cases(v.aX.an==10)
      · exact⟨q,rfl,by omega⟩
      · rw[bo];have h2:∃r:List cg,(cond v.aX.mh (aH (ln q+ln ([cg.mk 6 [] (J (Int.tdiv v.aX.cS 1000)) (cT.mk 0 0 0 0)]:List cg)≤137438953472) (lt (q++([cg.mk 6 [] (J (Int.tdiv v.aX.cS 1000)) (cT.mk 0 0 0 0)]:List cg)) λKM=>some KM)) (some q):Option (List cg))=some r∧r.length≤2:=by
          cases v.aX.mh
          · exact⟨q,rfl,by omega⟩
          · rw[bo,EV _ _ _ (by omega) (by simp),lt_eq];exact⟨_,rfl,xX _ _ 1 ql⟩
        obtain⟨r,hr,rl⟩:=h2;rw[hr,aW,EV _ _ _ (by omega) (by simp),lt_eq];cases(v.aX.cS==0)
        · exact⟨_,rfl,Nat.le_trans (xX _ _ 2 rl) (by decide)⟩
        · rw[bo,EV _ _ _ (Nat.le_trans (xX _ _ 2 rl) (by decide)) (by simp),lt_eq];exact⟨_,rfl,xX _ _ 3 (xX _ _ 2 rl)⟩
    · obtain⟨y,hy⟩:=Q9 v.aX.Unit ht.2;rw[bo,hy,aW,lt_eq,lt_eq];cases(decide (0<gi ([2,3,4,0]:List Int) (qP ([[112,120],[101,109],[114,101,109]]:List a6) y)))
      · exact⟨q,rfl,by omega⟩
      · rw[bo,EV _ _ _ (by omega) (by simp),lt_eq];exact⟨_,rfl,Nat.le_trans (xX _ _ 1 ql) (by decide)⟩
  · obtain⟨y,hy⟩:=Q9 v.aX.cY ht.1;rw[bo,hy,aW,EV _ _ _ (by omega) (by simp),lt_eq,lt_eq];cases(y==[99,117,114,114,101,110,116,99,111,108,111,114])
    · exact⟨_,rfl,Nat.le_trans (xX _ _ 1 ql) (by decide)⟩
    · rw[bo,EV _ _ _ (Nat.le_trans (xX _ _ 1 ql) (by decide)) (by simp),lt_eq];exact⟨_,rfl,Nat.le_trans (xX _ _ 2 (xX _ _ 1 ql)) (by decide)⟩
theorem afb(v:cg):∃e,GN v=some e:=by
  have fin:∀b:Bool,∃e:Int,(cond b (some 8) (some 0):Option Int)=some e:=λb=>by cases b<;>exact⟨_,rfl⟩
  unfold GN;cases(v.an==1)<;>cases(v.an==6)<;>cases(v.an==2)<;>cases(v.an==3)<;>cases(v.an==4)<;>cases(v.an==5)<;>cases(v.an==7)<;>cases(v.an==8)<;>simp only[bo,be,aW,di,lt_eq]<;>first|exact fin _|exact⟨_,rfl⟩
theorem afc:(aU.all λp=>decide (p.eH.length<60)&&decide (p.ei.length<60)&&!(p.ei.contains 1))=true:=by kernel_rfl
theorem afd{de:Int}(h:0≤de∧de<ln aU):gi aU de∈aU:=by
  obtain⟨i,rfl⟩:∃i:Nat,de=i:=⟨de.toNat,by omega⟩;have hi:i<aU.length:=by unfold ln at h;omega
  rw[l9 _ _ hi];exact List.getElem_mem _
theorem afe(l:List Int)(x:Int)(h:l.length<60):KP 64 l x=some (pg (λi=>x==gi l i) l.length 0).isSome:=by
  have h1:=WU (KO 64 l x) (λi=>x==gi l i) (λi=>Sum.inl i) (Sum.inr ()) (ln l) l.length rfl (by omega)
    (λkk i hi=>by rw[KO];exact WT hi) l.length 0 64 rfl (by omega) (by omega)
  unfold KP ON;rw[show(0:Int)=((0:Nat):Int)from rfl,h1];cases hf:pg (λi=>x==gi l i) l.length 0 with
  |none=>rfl
  |some r=>
    have h0:=LG _ _ _ _ hf;have h2:decide (((0:Nat):Int)≤r)=true:=ew (by omega);show some (decide (((0:Nat):Int)≤r))=_;rw[h2];rfl
def aff(p:eL)(w:a6):Bool:=(pg (λi=>w==gi p.eH i) p.eH.length 0).isSome
def afg(p:eL)(v:cg):Bool:=cond (pg (λi=>v.an==gi p.ei i) p.ei.length 0).isSome (cond (!p.Oi) true (decide (0≤v.cS))) false
def a2Y(de:Int)(v:cg)(e:Int):Bool×Int:=cond (cond (decide (de<0)) true (decide (18≤de))) (false,2)
  (cond (e !=0) (false,0) (cond (v.an==1) (aff (gi aU de) v.zp,0) (afg (gi aU de) v,0)))
theorem rng{de:Int}(h:cond (decide (de<0)) true (decide (18≤de))=false):0≤de∧de<ln aU:=by
  rw[WW];by_cases h1:de<0
  · rw[ew h1]at h;cases h
  · rw[dt h1]at h;have:¬(18≤de):=of_decide_eq_false h;omega
theorem lens{de:Int}(h:0≤de∧de<ln aU):(gi aU de).eH.length<60∧(gi aU de).ei.length<60∧(gi aU de).ei.contains 1=false:=by
  have:=List.all_eq_true.1 afc _ (afd h);simp only[Bool.and_eq_true,decide_eq_true_eq,Bool.not_eq_true']at this;exact⟨this.1.1,this.1.2,this.2⟩
theorem afh(de:Int)(v:cg)(e:Int)(he:GN v=some e):GP 64 de v=some (a2Y de v e):=by
  unfold GP a2Y;simp only[lt_eq];cases hr:cond (decide (de<0)) true (decide (18≤de))
  · have h0:=rng hr;obtain⟨l1,l2,_⟩:=lens h0;simp only[be];rw[WV];simp only[aW];rw[bS h0,he];simp only[aW];cases(e !=0)
    · simp only[be];rw[LH _ _ l1,afe _ _ l2];simp only[aW];cases(v.an==1)<;>rfl
    · rfl
  · rfl

theorem afi(de:Int)(v:cg):∃q,GP 64 de v=some q:=by
  obtain⟨e,he⟩:=afb v;exact⟨_,afh de v e he⟩
theorem afj(de:Int)(l:List cg)(hl:l.length≤4):∀(kk i:Nat),l.length-i<kk→i≤l.length→∃z,GQ FU de l kk (i:Int)=some z:=by
  intro kk
  induction kk with
  |zero=>intro i h;omega
  |succ kk ih=>
    intro i h hi;rw[GQ];by_cases h1:i<l.length
    · obtain⟨⟨is,e⟩,hx⟩:=afi de (gi l (i:Int));rw[jP h1,bo,gV h1,hx,aW];dsimp only;cases is
      · rw[be,cq (by omega)];exact ih (i+1) (by omega) (by omega)
      · exact⟨_,rfl⟩
    · rw[iQ (by omega),be];exact⟨_,rfl⟩
theorem afk(de:Int)(l:List ax)(hl:cD l≤1048576):∃r,KQ FU de l=some r:=by
  unfold KQ;rw[lt_eq];cases(cond (decide (de<0)) true (decide (18≤de)))
  · rw[be];by_cases h1:ln l=1
    · have hlen:0<l.length:=by unfold ln at h1;omega
      have hm:=qz (l:=l) (i:=0) hlen;have hz:=rK hm;obtain⟨q,hq,ql⟩:=af9 (gi l ((0:Nat):Int)) (by omega);rw[h1,bne_self_eq_false,be,bS ⟨by decide,by decide⟩,show GI FU (gi l (0:Int))=some q from hq,aW];obtain⟨z,h⟩:=afj de q ql FU 0 (by unfold FU;omega) (iW _);rw[show GQ FU de q FU 0=_ from h];cases z<;>exact⟨_,rfl⟩
    · rw[show(ln l !=1)=true from bne_iff_ne.2 h1];exact⟨_,rfl⟩
  · exact⟨_,rfl⟩
def I5(name:a6)(l:List ax):Bool:=(BM FU name l).getD false
theorem a2Z(name:a6)(l:List ax)(hl:cD l≤1048576):BM FU name l=some (I5 name l):=by
  have h:∃b,BM FU name l=some b:=by
    unfold BM;rw[a2Q,aW];cases((tY name).2 !=0)
    · obtain⟨r,h1⟩:=afk (tY name).1 l hl;rw[be,h1];exact⟨_,rfl⟩
    · exact⟨_,rfl⟩
  obtain⟨b,h1⟩:=h;unfold I5;rw[h1];rfl
theorem a30(v:ax):v.aX.cY.length+v.aX.Unit.length+cD v.ae+8≤zV v:=by
  obtain⟨t,l⟩:=v;simp only[zV,zT,ax.aX,ax.ae];omega
def ig(w:a6):List a6:=cond (w==jM) Q8 (cond (xW w) [w++[45,99,111,108,111,114]] [])
theorem a32(w:a6)(hw:w.length≤1048576):Bu 64 w=some (ig w):=by
  unfold Bu ig;rw[lt_eq,LH zo w (by decide),aW];rw[show(pg (λi=>w==gi zo i) zo.length 0).isSome=cond (w==jM) true (xW w)from X1 _ _ _ _ w];cases hm:(w==jM)
  · rw[be,be,lt_eq];cases hs:xW w
    · rfl
    · rw[px,be,show(!(w==([109,97,114,103,105,110]:a6)))=true from by rw[show(w==([109,97,114,103,105,110]:a6))=false from hm];rfl,bo,bS (by unfold ln;simp only[fD,il];omega)];rfl
  · have e:w=jM:=eq_of_beq hm;subst e;rw[show Kn 64 jM 64 [] 0=some Q8 from by kernel_rfl];rfl
def nF(l:List ax)(i:Nat):Bool:=(gi l (i:Int)).aX.an==13
def gl(l:List ax):Nat→Nat→List (List ax)→Option (List (List ax))
  |0,_,v=>some v
  |k+1,i,v=>cond (nF l i) (gl l k (i+1) v) (cond (cond (decide (0<i)) (!(nF l (i-1))) false) none (gl l k (i+1) (v++[[gi l (i:Int)]])))
theorem sX{l:List ax}{i:Nat}(h:i<l.length):ff l (i:Int) ((i+1:Nat):Int)=[gi l (i:Int)]:=by
  rw[l9 l i h];unfold ff;simp only[Int.toNat_natCast];rw[rX h,show i+1-i=1 from by omega];rfl
theorem afl(l:List ax)(hl:l.length≤1048576):∀(kk i k:Nat)(v:List (List ax)),i+k=l.length→k<kk→v.length≤i→
    GR FU l kk v (i:Int)=match gl l k i v with
      |none=>some (.inl [])
      |some q=>some (.inr q):=by
  intro kk
  induction kk with
  |zero=>intro i k v _ h;omega
  |succ kk ih=>
    intro i k v Fu hk hv;rw[GR];cases k with
    |zero=>rw[iQ (by omega),be];rfl
    |succ k=>
      have h1:i<l.length:=by omega
      rw[jP h1,bo,gV h1,gl];show Option.bind (cond (nF l i) _ _) _=_;cases hs:nF l i
      · rw[be,be];have afm:(cond (decide (0<(i:Int))) ((gi l (J ((i:Int)-1))).aX.an !=13) false)=cond (decide (0<i)) (!(nF l (i-1))) false:=by
          by_cases h0:0<i
          · rw[ew h0,ew (show(0:Int)<(i:Int) by omega),bo,bo,show J ((i:Int)-1)=((i-1:Nat):Int)from by rw[nn (by omega) (by omega)];omega];rfl
          · rw[dt h0,dt (show¬(0:Int)<(i:Int) by omega)];rfl
        rw[bS (λh=>by
          have h0:(0:Int)<(i:Int):=by simpa using h
          rw[show J ((i:Int)-1)=((i-1:Nat):Int)from by rw[nn (by omega) (by omega)];omega];exact⟨by omega,by unfold ln;omega⟩),lt_eq,afm]
        cases(cond (decide (0<i)) (!(nF l (i-1))) false)
        · rw[be,be,cq (by omega),bS ⟨by omega,by omega,by unfold ln;omega⟩,lt_eq,sX h1,bS (by unfold ln;simp only[fD,il];omega),lt_eq,aW];dsimp only[di];exact ih (i+1) k _ (by omega) (by omega) (by simp only[fR,fD,il];omega)
        · rfl
      · rw[bo,bo,aW];dsimp only[di];rw[cq (by omega)];exact ih (i+1) k v (by omega) (by omega) (by omega)
abbrev LV:=List (List ax)
def EW:LV→LV
  |[a]=>[a,a,a,a]
  |[a,b]=>[a,b,a,b]
  |[a,b,c]=>[a,b,c,b]
  |v=>v
def pt(l:List ax):LV:=cond (decide (l.length=0)) [] (cond (cond (nF l 0) true (nF l (l.length-1))) [] (match gl l l.length 0 []with
  |none=>[]
  |some v=>cond (decide (4<v.length)) [] (EW v)))
theorem X4(l:List ax):∀(k i:Nat)(v q:LV),gl l k i v=some q→v.length≤q.length
  |0,i,v,q,h=>by cases h;exact dc _
  |k+1,i,v,q,h=>by
    rw[gl]at h;cases hs:nF l i
    · rw[hs,be]at h;cases hq:(cond (decide (0<i)) (!(nF l (i-1))) false)
      · rw[hq,be]at h;have:=X4 l k (i+1) _ q h;simp only[fR,fD,il]at this;omega
      · rw[hq]at h;cases h
    · rw[hs,bo]at h;exact X4 l k (i+1) v q h
theorem afn(l:List ax)(hf:nF l 0=false)(hl:0<l.length)(q:LV)(h:gl l l.length 0 []=some q):0<q.length:=by
  obtain⟨k,hk⟩:∃k,l.length=k+1:=⟨l.length-1,by omega⟩;rw[hk,gl,hf,be,dt (by omega),be,be]at h;have:=X4 l k 1 _ q h;simp only[List.nil_append,fD,il]at this;omega
def fp(v:LV):Option LV:=Option.bind (aH (0≤J (ln v-1)∧J (ln v-1)≤ln ([0,0,1]:List Int)∧ln ([0,0,1]:List Int)≤ln ([0,0,1]:List Int))<|
  lt (ff ([0,0,1]:List Int) (J (ln v-1)) (ln ([0,0,1]:List Int))) λlU=>
  OP FU lU FU v 0) λ(Ep:LV)=>some Ep
theorem fp1(a:List ax):fp [a]=some [a,a,a,a]:=by kernel_rfl
theorem fp2(a b:List ax):fp [a,b]=some [a,b,a,b]:=by kernel_rfl
theorem fp3(a b c:List ax):fp [a,b,c]=some [a,b,c,b]:=by kernel_rfl
theorem fp4(a b c d:List ax):fp [a,b,c,d]=some [a,b,c,d]:=by kernel_rfl
theorem fill(v:LV)(hp:0<v.length)(h4:¬4<v.length):fp v=some (EW v):=by
  match v,hp,h4 with
  |[a],_,_=>exact fp1 a
  |[a,b],_,_=>exact fp2 a b
  |[a,b,c],_,_=>exact fp3 a b c
  |[a,b,c,d],_,_=>exact fp4 a b c d
  |a::b::c::d::e::r,_,h=>exact absurd h (by simp only[fD];omega)
theorem afo(l:List ax)(hl:l.length≤1048576):GS FU l=some (pt l):=by
  unfold GS pt;by_cases h0:l.length=0
  · have:l=[]:=a5Q h0;subst this;rfl
  · have n0:(ln l==0)=false:=rW.2 (by unfold ln;omega);have wl:J (ln l-1)=((l.length-1:Nat):Int):=by unfold ln;rw[nn (by omega) (by omega)];omega
    rw[n0,dt h0,be,be,bS (λ_=>⟨by decide,by unfold ln;omega⟩),lt_eq,wl,bS (λ_=>⟨by omega,by unfold ln;omega⟩),lt_eq];show cond (cond (nF l 0) true (nF l (l.length-1))) _ _=_;cases hb:(cond (nF l 0) true (nF l (l.length-1)))
    · rw[be,be,show GR FU l FU [] 0=_ from afl l hl FU 0 l.length [] (by omega) (by unfold FU;omega) (iW _)];have hf:nF l 0=false:=by
        cases h:nF l 0
        · rfl
        · rw[h]at hb;cases hb
      cases hg:gl l l.length 0 []with
      |none=>rfl
      |some v=>
        have hp:=afn l hf (by omega) v hg;rw[aW];dsimp only[di];by_cases h4:4<v.length
        · rw[ew (show 4<ln v by unfold ln;omega),ew h4];rfl
        · rw[dt (show¬4<ln v by unfold ln;omega),dt h4,be,be];exact fill v hp h4
    · rfl
def EX(y:List a6)(z:LV)(i:Nat):Nat→Bool
  |0=>true
  |k+1=>I5 (gi y (i:Int)) (gi z (i:Int))&&EX y z (i+1) k
theorem afp(y:List a6)(z:LV)(hyz:z.length=y.length)(hy:y.length≤10)(hz:∀x∈z,cD x≤1048576):∀(kk i k:Nat),i+k=y.length→k<kk→
    GW FU z y kk (i:Int)=cond (EX y z i k) (some (.inr ())) (some (.inl [])):=by
  intro kk
  induction kk with
  |zero=>intro i k _ h;omega
  |succ kk ih=>
    intro i k Fu hk;rw[GW];cases k with
    |zero=>rw[iQ (by omega),be];rfl
    |succ k=>
      have h1:i<y.length:=by omega
      have h2:i<z.length:=by omega
      rw[jP h1,bo,gV h1,gV h2,a2Z _ _ (hz _ (qz h2)),aW,EX];cases I5 (gi y (i:Int)) (gi z (i:Int))
      · rfl
      · rw[px,be,cq (by omega),a5R];exact ih (i+1) k (by omega) (by omega)
theorem X5(l:List ax)(xY:cD l≤1048576):∀(k i:Nat)(v q:LV),i+k=l.length→(∀x∈v,cD x≤1048576)→gl l k i v=some q→∀x∈q,cD x≤1048576
  |0,i,v,q,_,hv,h=>by cases h;exact hv
  |k+1,i,v,q,Fu,hv,h=>by
    rw[gl]at h;cases hs:nF l i
    · rw[hs,be]at h;cases hq:(cond (decide (0<i)) (!(nF l (i-1))) false)
      · rw[hq,be]at h;refine X5 l xY k (i+1) _ q (by omega) (λx hx=>?_) h;rcases List.mem_append.1 hx with h'|h'
        · exact hv x h'
        · rw[List.mem_singleton.1 h'];have hm:=rK (qz (show i<l.length by omega));simp only[cD];omega
      · rw[hq]at h;cases h
    · rw[hs,bo]at h;exact X5 l xY k (i+1) v q (by omega) hv h
theorem afq{P:List ax→Prop}(v:LV)(h:∀x∈v,P x):∀x∈EW v,P x:=by
  match v,h with
  |[],h=>exact h
  |[a],h=>intro x hx;have:=h a (by simp);simp[EW]at hx;rw[hx];exact this
  |[a,b],h=>intro x hx;have h1:=h a (by simp);have h2:=h b (by simp);simp[EW]at hx;rcases hx with hx|hx|hx|hx<;>rw[hx]<;>assumption
  |[a,b,c],h=>intro x hx;have h1:=h a (by simp);have h2:=h b (by simp);have h3:=h c (by simp);simp[EW]at hx;rcases hx with hx|hx|hx|hx<;>rw[hx]<;>assumption
  |a::b::c::d::r,h=>exact h
theorem a33(l:List ax)(xY:cD l≤1048576):∀x∈pt l,cD x≤1048576:=by
  unfold pt;cases decide (l.length=0)
  · cases(cond (nF l 0) true (nF l (l.length-1)))
    · rw[be,be];cases hg:gl l l.length 0 []with
      |none=>intro x hx;cases hx
      |some v=>
        have:=X5 l xY l.length 0 [] v (by omega) (λx hx=>by cases hx) hg;show∀x∈cond (decide (4<v.length)) [] (EW v),cD x≤1048576;cases decide (4<v.length)
        · exact afq v this
        · intro x hx;cases hx
    · intro x hx;cases hx
  · intro x hx;cases hx
def CD(w:a6)(l:List ax):LV:=cond (ln (cond (w==jM) (pt l) [l]) !=ln (ig w)) [] (cond (EX (ig w) (cond (w==jM) (pt l) [l]) 0 (ig w).length) (cond (w==jM) (pt l) [l]) [])
theorem afr(w:a6):(ig w).length≤4:=by
  unfold ig;cases(w==jM)<;>cases xW w<;>exact Nat.le_of_ble_eq_true rfl
theorem afs(w:a6)(l:List ax)(hw:w.length≤1048576)(xY:cD l≤1048576):GX FU w l=some (CD w l):=by
  have hl:=qy l;have ZM:=afr w;have e1:(cond (w==[109,97,114,103,105,110]) (Option.bind (GS FU l) λba=>some ba) (some ([l]:LV)):Option LV)=some (cond (w==jM) (pt l) [l]):=by
    rw[afo l (by omega)];show cond (w==jM) _ _=_;cases(w==jM)<;>rfl
  have hm:∀x∈cond (w==jM) (pt l) [l],cD x≤1048576:=by
    cases(w==jM)
    · intro x hx;rw[List.mem_singleton.1 hx];exact xY
    · exact a33 l xY
  unfold GX CD;rw[e1,aW,a32 w hw,aW];generalize cond (w==jM) (pt l) [l]=z at*;cases hn:(ln z !=ln (ig w))
  · have hlen:z.length=(ig w).length:=by
      have:=bne_eq_false_iff_eq.1 hn;unfold ln at this;omega
    rw[be,be,show GW FU z (ig w) FU 0=_ from afp (ig w) z hlen (by omega) hm FU 0 (ig w).length (by omega) (by unfold FU;omega)];cases EX (ig w) z 0 (ig w).length<;>rfl
  · rfl
theorem aft(w:a6)(l:List ax):(ln (CD w l)==0)=true∨(CD w l).length=(ig w).length:=by
  unfold CD;cases hn:(ln (cond (w==jM) (pt l) [l]) !=ln (ig w))
  · rw[be];cases EX (ig w) (cond (w==jM) (pt l) [l]) 0 (ig w).length
    · exact Or.inl rfl
    · right;have:=bne_eq_false_iff_eq.1 hn;unfold ln at this;rw[bo];omega
  · exact Or.inl rfl
theorem afu(w:a6)(l:List ax)(xY:cD l≤1048576):∀x∈CD w l,cD x≤1048576:=by
  have hm:∀x∈cond (w==jM) (pt l) [l],cD x≤1048576:=by
    cases(w==jM)
    · intro x hx;rw[List.mem_singleton.1 hx];exact xY
    · exact a33 l xY
  unfold CD;cases(ln (cond (w==jM) (pt l) [l]) !=ln (ig w))
  · rw[be];cases EX (ig w) (cond (w==jM) (pt l) [l]) 0 (ig w).length
    · intro x hx;cases hx
    · exact hm
  · intro x hx;cases hx
theorem afv(x:ax):x.aX.cY.length≤zV x:=by
 obtain⟨t,l⟩:=x;simp only[zV,zT,ax.aX];omega
def words:List a6:=[[105,110,105,116,105,97,108],[105,110,104,101,114,105,116],[117,110,115,101,116],[114,101,118,101,114,116]]
def Qc:a6:=[114,101,118,101,114,116]
def Qd:a6:=[117,110,115,101,116]
theorem afw(m:Nat)(s:a6)(hs:s.length≤1048576):∀(kk i:Nat)(b:List Int),s.length-i<kk→i≤s.length→∃r,Kz m s kk (i:Int) b=some r:=by
 intro kk
 induction kk with
 |zero=>intro i b h;omega
 |succ kk ih=>
  intro i b h hi;have hl:(bD s).length=s.length:=by simp[bD]
  rw[Kz];by_cases h1:i<s.length
  ·rw[jP (by rw[hl];exact h1),bo,gV (by rw[hl];exact h1),lt_eq,cq (by omega)];cases(cond (decide (65≤gi b (i:Int))) (decide (gi b (i:Int)≤90)) false)
   ·exact ih (i+1) _ (by omega) (by omega)
   ·exact ih (i+1) _ (by omega) (by omega)
  ·rw[iQ (by rw[hl];omega),be];exact⟨_,rfl⟩
theorem a34(s:a6)(hs:s.length≤1048576):∃r,BE FU s=some r:=by
 obtain⟨r,h⟩:=afw FU s hs FU 0 (bD s) (by unfold FU;omega) (iW _);exact⟨jn r,by unfold BE;rw[show(0:Int)=((0:Nat):Int)from rfl,h];rfl⟩
def wid(v:List ax):a6:=(Ed FU v).getD []
theorem afx(x:a6):xB 64 words x=some (cond (x==[105,110,105,116,105,97,108]) true (cond (x==[105,110,104,101,114,105,116]) true (cond (x==Qd) true (x==Qc)))):=by
 rw[LH words x (by decide)];congr 1;exact X1 _ _ _ _ x
theorem afy(v:List ax)(hv:cD v≤1048576):Ed FU v=some (wid v)∧(wid v=[]∨wid v=[105,110,105,116,105,97,108]∨wid v=[105,110,104,101,114,105,116]∨wid v=Qd∨wid v=Qc):=by
 have key:∃w,Ed FU v=some w∧(w=[]∨w=[105,110,105,116,105,97,108]∨w=[105,110,104,101,114,105,116]∨w=Qd∨w=Qc):=by
  unfold Ed;by_cases h1:ln v=1
  ·have h0:0≤(0:Int)∧(0:Int)<ln v:=by omega
   rw[bS (λ_=>h0),lt_eq];cases hx:(cond (ln v==1) ((gi v (0:Int)).aX.an==1) false)
   ·exact⟨[],rfl,Or.inl rfl⟩
   ·rw[bo,bS h0];have hm:gi v (0:Int)∈v:=qz (i:=0) (by unfold ln at h1;omega);have h2:=rK hm;have h3:(gi v (0:Int)).aX.cY.length≤1048576:=by have:=afv (gi v (0:Int));omega
    obtain⟨r,hr⟩:=a34 _ h3;rw[hr,aW];show∃w,Option.bind (Option.bind (xB 64 words r) _) _=_∧_;rw[afx,aW];cases b1:(r==([105,110,105,116,105,97,108]:a6))
    ·cases b2:(r==([105,110,104,101,114,105,116]:a6))
     ·cases b3:(r==Qd)
      ·cases b4:(r==Qc)
       ·exact⟨[],rfl,Or.inl rfl⟩
       ·exact⟨r,rfl,Or.inr (Or.inr (Or.inr (Or.inr (eq_of_beq b4))))⟩
      ·exact⟨r,rfl,Or.inr (Or.inr (Or.inr (Or.inl (eq_of_beq b3))))⟩
     ·exact⟨r,rfl,Or.inr (Or.inr (Or.inl (eq_of_beq b2)))⟩
    ·exact⟨r,rfl,Or.inr (Or.inl (eq_of_beq b1))⟩
  ·have hb:(ln v==1)=false:=by simpa using h1
   rw[hb,bS (λh=>by cases h),lt_eq];exact⟨[],rfl,Or.inl rfl⟩
 obtain⟨w,h1,h2⟩:=key;have e:wid v=w:=by unfold wid;rw[h1];rfl
 rw[e];exact⟨h1,h2⟩
def LK(s:a6):a6:=(BE FU s).getD []
theorem afz(s:a6)(hs:s.length≤1048576):BE FU s=some (LK s):=by
 obtain⟨r,h⟩:=a34 s hs;unfold LK;rw[h];rfl
mutual
def vV:ax→Bool
 | .mk t l=>cond (t.an==2) (LK t.cY==[118,97,114]) false||ph l
def ph:List ax→Bool
 |[]=>false
 |x::r=>vV x||ph r
end
theorem afA(x:ax):vV x=(cond (x.aX.an==2) (LK x.aX.cY==[118,97,114]) false||ph x.ae):=by obtain⟨t,l⟩:=x;rw[vV];rfl
theorem afB(rec:List ax→Option Bool)(x:ax)(hx:zV x≤1048576)(hr:rec x.ae=some (ph x.ae)):KA FU rec x=some (vV x):=by
 have hz:=a30 x;unfold KA;rw[afA];cases(x.aX.an==2)
 ·rw[be,be,aW,lt_eq,hr];rfl
 ·rw[bo,bo,afz _ (by omega),aW,lt_eq];cases(LK x.aX.cY==[118,97,114])
  ·rw[hr];rfl
  ·rfl
theorem afC(rec:List ax→Option Bool)(v:List ax)(hb:cD v≤1048576)(hr:∀x∈v,rec x.ae=some (ph x.ae)):∀(kk i:Nat),v.length-i<kk→i≤v.length→
  (ph (v.drop i)=true∧∃j:Nat,BF FU rec v kk (i:Int)=some (.inl (j:Int)))∨(ph (v.drop i)=false∧BF FU rec v kk (i:Int)=some (.inr ())):=by
 have hl:=qy v;intro kk
 induction kk with
 |zero=>intro i h;omega
 |succ kk ih=>
  intro i h hi;rw[BF];by_cases h1:i<v.length
  ·have hm:=qz h1;have hz:=rK hm;rw[jP h1,bo,gV h1,afB rec _ (by omega) (hr _ hm),aW,rX h1,ph,←l9 v i h1];cases hh:vV (gi v (i:Int))
   ·rw[be,IV,cq (by omega)];exact ih (i+1) (by omega) (by omega)
   ·left;exact⟨rfl,i,rfl⟩
  ·right;rw[iQ (by omega),be,IU (by omega),ph];exact⟨rfl,rfl⟩
theorem afD:∀(k:Nat)(v:List ax),cD v<k→cD v≤1048576→zw FU k v=some (ph v):=by
 intro k
 induction k with
 |zero=>intro v h;omega
 |succ k ih=>
  intro v h hb;have hl:=qy v;rw[zw];unfold OE OD;rcases afC (zw FU k) v hb (λx hx=>by
   have h1:=rK hx;have h2:=qx x;exact ih _ (by omega) (by omega)) FU 0 (by unfold FU;omega) (iW _)with⟨e,j,h1⟩|⟨e,h1⟩
  ·rw[pw]at e;rw[show BF FU (zw FU k) v FU 0=_ from h1,e,aW];dsimp only[di];rw[aW,aW,ew (by omega)]
  ·rw[pw]at e;rw[show BF FU (zw FU k) v FU 0=_ from h1,e];rfl
theorem afE(v:List ax)(hb:cD v≤1048576):UM FU v=some (ph v):=afD FU v (by unfold FU;omega) hb
theorem afF(v:List ax):BN FU [v] 1=some [v]:=by kernel_rfl
theorem afG(v:List ax):BN FU [v] 4=some [v,v,v,v]:=by kernel_rfl
def gv(w:a6):Bool:=decide (0<ln (ig w))
def ri(d:cR):Bool:=cond (Aa d.bm) true (cond (!(wid d.Value==[])) true (cond (ph d.Value) true (cond (gv d.bm) false (I5 d.bm d.Value))))
def vn(d:cR):LV:=cond (ri d) (List.replicate (lH d.bm).1.length d.Value) (cond (gv d.bm) (CD d.bm d.Value) [])
def whl(d:cR):a6:=cond (cond (gv d.bm) (ph d.Value) false) d.bm []
def afH(d:cR):List mZ:=List.zipWith (λn v=>mZ.mk n v (whl d)) (lH d.bm).1 (vn d)
def X6(d:cR):List mZ×Int:=cond (EU d.Value !=0) ([],EU d.Value) (cond ((lH d.bm).2 !=0) ([],(lH d.bm).2) (cond (ln (vn d)==0) ([],12) (afH d,0)))
theorem a35(w:a6):(gv w=true∧lH w=(ig w,0))∨(gv w=false∧ig w=[]∧((lH w).2=0→(lH w).1=[w])):=by
  unfold gv lH ig;cases(w==jM)
  · cases xW w
    · right;refine⟨rfl,rfl,λh=>?_⟩;simp only[be]at h⊢;cases hh:((CA w).2 !=0)
      · rfl
      · rw[hh]at h;cases h
    · exact Or.inl ⟨rfl,rfl⟩
  · exact Or.inl ⟨rfl,rfl⟩
theorem afI(w:a6)(h:gv w=true):(ig w).length=1∨(ig w).length=4:=by
  unfold gv ig at h;unfold ig;cases hm:(w==jM)
  · rw[hm]at h;cases hs:xW w
    · rw[hs]at h;cases h
    · exact Or.inl rfl
  · exact Or.inr rfl
theorem a36(w:a6)(h:(lH w).2=0):(lH w).1.length=1∨(lH w).1.length=4:=by
  rcases a35 w with⟨h1,h2⟩|⟨h1,h2,h3⟩
  · rw[h2];exact afI w h1
  · rw[h3 h];exact Or.inl rfl
theorem afJ(v:List ax)(n:Nat)(h:n=1∨n=4):BN FU [v] ((n:Nat):Int)=some (List.replicate n v):=by
  rcases h with rfl|rfl
  · exact afF v
  · exact afG v
theorem afK(d:cR)(hv:cD d.Value≤1048576):∀x∈vn d,cD x≤1048576:=by
  unfold vn;cases ri d
  · cases gv d.bm
    · intro x hx;cases hx
    · exact afu d.bm d.Value hv
  · intro x hx;rw[List.eq_of_mem_replicate hx];exact hv
theorem afL(d:cR)(h:(lH d.bm).2=0):(ln (vn d)==0)=true∨(vn d).length=(lH d.bm).1.length:=by
  unfold vn;cases ri d
  · rcases a35 d.bm with⟨h1,h2⟩|⟨h1,h2,h3⟩
    · rw[h1,h2];exact aft d.bm d.Value
    · rw[h1];exact Or.inl rfl
  · right;rw[bo,List.length_replicate]
theorem afM(d:cR)(y:List a6)(iY:List a6)(b:Bool)(z:LV)(wh:a6)(hw:cond (cond (decide (0<ln iY)) b false) d.bm []=wh)(hyz:z.length=y.length)(hy:y.length≤10)(hz:∀x∈z,cD x≤1048576):∀(kk i:Nat)(v:List mZ),y.length-i<kk→i≤y.length→v.length≤i→
    GY FU d (y,0) iY b z kk v (i:Int)=some (v++List.zipWith (λn x=>mZ.mk n x wh) (y.drop i) (z.drop i)):=by
  have hcw:(cond (cond (decide (0<ln iY)) b false) (some d.bm) (some []):Option a6)=some wh:=by
    rw[←hw];cases(cond (decide (0<ln iY)) b false)<;>rfl
  intro kk
  induction kk with
  |zero=>intro i v h;omega
  |succ kk ih=>
    intro i v h hi hv;rw[GY];by_cases h1:i<y.length
    · have h2:i<z.length:=by omega
      rw[jP h1,bo,gV h1,gV h2,show Vq FU (gi z (i:Int))=some (gi z (i:Int))from aeO FU X0 FU _ (by have:=hz _ (qz h2);unfold FU;omega) (hz _ (qz h2)),aW,hcw,aW,bS (by unfold ln;simp only[fD,il];omega),lt_eq,cq (by omega),ih (i+1) _ (by omega) (by omega) (by simp only[fR,fD,il];omega),rX h1,rX h2,List.zipWith_cons_cons,l9 z i h2,yA];rw[show gi (y,(0:Int)).1 (i:Int)=y[i]from l9 y i h1];rfl
    · rw[show decide ((i:Int)<ln (y,(0:Int)).1)=false from iQ (show y.length≤i by omega),be,IU (show y.length≤i by omega)];simp
theorem afN(d:cR)(hn:d.bm.length≤1048576)(hv:cD d.Value≤1048576):KX FU d=some (X6 d):=by
  unfold KX X6;rw[Q7 FU X0 d.Value hv,aW];cases(EU d.Value !=0)
  rotate_left
  · rfl
  rw[be,be,aeQ d.bm hn,aW];by_cases he:(lH d.bm).2=0
  rotate_left
  · rw[show((lH d.bm).2 !=0)=true from bne_iff_ne.2 he];rfl
  rw[he,show((0:Int) !=0)=false from rfl,be,be,a32 d.bm hn,aW,afE d.Value hv,aW,a2R d.bm,aW,(afy d.Value hv).1,aW,a2Z d.bm d.Value hv];have hz:(cond (Aa d.bm) (some (Aa d.bm)) (cond (!(wid d.Value==[])) (some (!(wid d.Value==[]))) (cond (ph d.Value) (some (ph d.Value)) (Option.bind (cond (!(decide (0<ln (ig d.bm)))) (some (I5 d.bm d.Value)) (some default)) λtO=>lt (cond (!(decide (0<ln (ig d.bm)))) tO false) λpK=>some pK))):Option Bool)=some (ri d):=by
    unfold ri gv;cases Aa d.bm<;>cases(!(wid d.Value==[]))<;>cases ph d.Value<;>cases decide (0<ln (ig d.bm))<;>rfl
  rw[hz,aW];have ha:(cond (ri d) (Option.bind (BN FU ([d.Value]:LV) (ln (lH d.bm).1)) λjg=>some jg) (cond (decide (0<ln (ig d.bm))) (Option.bind (GX FU d.bm d.Value) λeS=>some eS) (some ([]:LV))):Option LV)=some (vn d):=by
    unfold vn;rw[afs d.bm d.Value hn hv,show BN FU ([d.Value]:LV) (ln (lH d.bm).1)=_ from afJ d.Value _ (a36 d.bm he)];unfold gv;cases ri d<;>cases decide (0<ln (ig d.bm))<;>rfl
  rw[ha,aW];rcases afL d he with h0|h0
  · rw[h0];rfl
  · have nI:(ln (vn d)==0)=false:=by
      have:=a36 d.bm he;exact rW.2 (by unfold ln;omega)
    have hl:=aeR d.bm;have e:=afM d (lH d.bm).1 (ig d.bm) (ph d.Value) (vn d) (whl d) rfl h0 (by omega) (afK d hv) FU 0 [] (by unfold FU;omega) (iW _) (iW _);rw[nI,be,be,show lH d.bm=((lH d.bm).1,0)from by rw[←he],show GY FU d ((lH d.bm).1,0) (ig d.bm) (ph d.Value) (vn d) FU [] 0=_ from e];rfl
def knw(d:cR):Bool:=(X6 d).2==0
theorem afO(d:cR)(hn:d.bm.length≤1048576)(hv:cD d.Value≤1048576):L0 FU d=some (knw d):=by
 unfold L0;rw[afN d hn hv];rfl
def zL{α:Type}(z:α→Nat):List α→Nat
 |[]=>0
 |v::r=>z v+zL z r
theorem Ad{α:Type}{z:α→Nat}{x:α}:∀{l:List α},x∈l→z x≤zL z l
 |y::l,h=>by
  rw[zL];rcases List.mem_cons.1 h with rfl|h
  ·omega
  ·have:=Ad (z:=z) h;omega
theorem Ae{α:Type}{z:α→Nat}(hz:∀x,1≤z x):∀l:List α,l.length≤zL z l
 |[]=>iW _
 |y::l=>by have:=Ae hz l;have:=hz y;rw[zL,fD];omega
theorem X7:∀l,mA l=zL zX l
 |[]=>by rw[mA,zL]
 |v::r=>by rw[mA,zL,X7 r]
theorem X8:∀l,vl l=zL zP l
 |[]=>by rw[vl,zL]
 |v::r=>by rw[vl,zL,X8 r]
theorem X9:∀l,vm l=zL zS l
 |[]=>by rw[vm,zL]
 |v::r=>by rw[vm,zL,X9 r]
theorem Qe:∀l,sR l=zL zC l
 |[]=>by rw[sR,zL]
 |v::r=>by rw[sR,zL,Qe r]
theorem Xa:∀l,dT l=zL zR l
 |[]=>by rw[dT,zL]
 |v::r=>by rw[dT,zL,Xa r]
theorem Xb:∀l,rJ l=zL zD l
 |[]=>rfl
 |v::r=>by rw[rJ,zL,Xb r]
theorem Xc:∀l,jL l=zL sS l
 |[]=>rfl
 |v::r=>by rw[jL,zL,Xc r]
theorem Xd:∀l,jT l=zL zO l
 |[]=>rfl
 |v::r=>by rw[jT,zL,Xd r]
theorem LL(x:bL):zX x=vl x.bt+x.iE.length+4:=by obtain⟨a,b,c⟩:=x;simp only[zX,bL.bt,bL.iE];omega
theorem I6(x:fT):zP x=x.Tag.length+vm x.bA+3:=by obtain⟨a,b⟩:=x;simp only[zP,fT.Tag,fT.bA];omega
theorem I7(x:fq):zS x=x.bm.length+x.Value.length+mA x.ae+11:=by obtain⟨a,b,c,d,e,f,g,h⟩:=x;simp only[zS,fq.bm,fq.Value,fq.ae];omega
theorem u4(x:bu):zC x=x.bm.length+zD x.aS+sR x.ae+5:=by obtain⟨a,b,c,d,e⟩:=x;simp only[zC,bu.bm,bu.aS,bu.ae];omega
theorem CE(x:cR):zD x=x.bm.length+cD x.Value+4:=by unfold zD;omega
theorem LM(x:bB):zR x=mA x.dC+rJ x.cO+zC x.aT+jL x.bH+dT x.bE+6:=by obtain⟨a,b,c,d,e,f⟩:=x;simp only[zR,bB.dC,bB.cO,bB.aT,bB.bH,bB.bE];omega
theorem mX{x:bL}{l:List bL}(h:x∈l):zX x≤mA l:=by rw[X7];exact Ad h
theorem mP{x:fT}{l:List fT}(h:x∈l):zP x≤vl l:=by rw[X8];exact Ad h
theorem mS{x:fq}{l:List fq}(h:x∈l):zS x≤vm l:=by rw[X9];exact Ad h
theorem mC{x:bu}{l:List bu}(h:x∈l):zC x≤sR l:=by rw[Qe];exact Ad h
theorem mR{x:bB}{l:List bB}(h:x∈l):zR x≤dT l:=by rw[Xa];exact Ad h
theorem mD{x:cR}{l:List cR}(h:x∈l):zD x≤rJ l:=by rw[Xb];exact Ad h
theorem mN{x:List a6}{l:List (List a6)}(h:x∈l):sS x≤jL l:=by rw[Xc];exact Ad h
theorem mO{x:gg}{l:List gg}(h:x∈l):zO x≤jT l:=by rw[Xd];exact Ad h
theorem nX(l:List bL):l.length≤mA l:=by rw[X7];exact Ae (λx=>by rw[LL];omega) l
theorem nP(l:List fT):l.length≤vl l:=by rw[X8];exact Ae (λx=>by rw[I6];omega) l
theorem nS(l:List fq):l.length≤vm l:=by rw[X9];exact Ae (λx=>by rw[I7];omega) l
theorem nC(l:List bu):l.length≤sR l:=by rw[Qe];exact Ae (λx=>by rw[u4];omega) l
theorem nR(l:List bB):l.length≤dT l:=by rw[Xa];exact Ae (λx=>by rw[LM];omega) l
theorem nD(l:List cR):l.length≤rJ l:=by rw[Xb];exact Ae (λx=>by rw[CE];omega) l
theorem nN(l:List (List a6)):l.length≤jL l:=by rw[Xc];exact Ae (λx=>by unfold sS;omega) l
theorem nO(l:List gg):l.length≤jT l:=by rw[Xd];exact Ae (λx=>by unfold zO;omega) l
end Go.Proofs.YtlgligdlpbggaaaGreatDoor
