/-
  Component values: how large they are, and what a reading says of them. No program in sight.
-/
import Derived.Test.YtdkddffedangnaaGreatDoorQ2
import Derived.Test.YtdkddffedangnaaGreatDoorX
import Derived.Test.YtdkddffedangnaaGreatDoorWFd
import Derived.KernelRfl
set_option linter.unusedVariables false
set_option maxRecDepth 100000
namespace Go.Proofs.YtdkddffedangnaaGreatDoor
open Go Go.V Go.RowKit
def zT(x:cC):Nat:=1+(x.di.length+1)+1+(x.Unit.length+1)+1+1
mutual
def zV:aq→Nat
  | .mk t l=>zT t+(cG l+1)+1
def cG:List aq→Nat
  |[]=>0
  |v::r=>zV v+cG r
end
theorem YN:∀l:List aq,cG l=(l.map zV).sum
  |[]=>rfl
  |y::l=>by rw[cG,YN l];rfl
def wfT(x:cC):Prop:=(Lit.int .u8 x.af).wf=true∧x.di.length≤maxLen∧(Lit.int .i64 x.cN).wf=true∧x.Unit.length≤maxLen∧True
mutual
def NQ:aq→Prop
  | .mk t l=>wfT t∧l.length≤maxLen∧S5 l
def S5:List aq→Prop
  |[]=>True
  |v::r=>NQ v∧S5 r
end
theorem a4U:∀l:List aq,(∀x∈l,NQ x)→S5 l
  |[],_=>trivial
  |y::l,h=>by
    rw[S5];exact⟨h y List.mem_cons_self,a4U l λx hx=>h x (List.mem_cons_of_mem _ hx)⟩
mutual
def zX:bw→Nat
 | .mk _ p c=>1+(xh p+1)+(c.length+1)+1
def mu:List bw→Nat
 |[]=>0
 |v::r=>zX v+mu r
def zP:gE→Nat
 | .mk t s=>(t.length+1)+(vC s+1)+1
def xh:List gE→Nat
 |[]=>0
 |v::r=>zP v+xh r
def zS:fc→Nat
 | .mk _ n _ v _ _ _ l=>1+(n.length+1)+1+(v.length+1)+1+(1+1+1)+1+(mu l+1)+1
def vC:List fc→Nat
 |[]=>0
 |v::r=>zS v+vC r
end
def zD(d:cR):Nat:=(d.bm.length+1)+(cG d.Value+1)+1+1
mutual
def zC:bq→Nat
 | .mk _ n _ d l=>1+(n.length+1)+1+zD d+(ue l+1)+1
def ue:List bq→Nat
 |[]=>0
 |v::r=>zC v+ue r
end
def rI:List cR→Nat
 |[]=>0
 |v::r=>zD v+rI r
def rJ(l:List a7):Nat:=(l.map λx=>x.length+1).sum+1
def kf:List (List a7)→Nat
 |[]=>0
 |v::r=>rJ v+kf r
mutual
def zR:bp→Nat
 | .mk _ s d c n l=>1+(mu s+1)+(rI d+1)+zC c+(kf n+1)+(dZ l+1)+1
def dZ:List bp→Nat
 |[]=>0
 |v::r=>zR v+dZ r
end
def zO(s:fJ):Nat:=1+((dZ s.ed.br+1)+1)+1
def iP:List fJ→Nat
 |[]=>0
 |v::r=>zO v+iP r
theorem YO:∀l:List bw,(l.map zX).sum+1=mu l+1
 |[]=>by rw[mu];rfl
 |v::r=>by have:=YO r;rw[mu,List.map_cons,List.sum_cons];omega
theorem a4V:∀l:List gE,(l.map zP).sum+1=xh l+1
 |[]=>by rw[xh];rfl
 |v::r=>by have:=a4V r;rw[xh,List.map_cons,List.sum_cons];omega
theorem a4W:∀l:List fc,(l.map zS).sum+1=vC l+1
 |[]=>by rw[vC];rfl
 |v::r=>by have:=a4W r;rw[vC,List.map_cons,List.sum_cons];omega
theorem a4X:∀l:List bq,(l.map zC).sum+1=ue l+1
 |[]=>by rw[ue];rfl
 |v::r=>by have:=a4X r;rw[ue,List.map_cons,List.sum_cons];omega
theorem YP:∀l:List bp,(l.map zR).sum+1=dZ l+1
 |[]=>by rw[dZ];rfl
 |v::r=>by have:=YP r;rw[dZ,List.map_cons,List.sum_cons];omega
theorem a4Y:∀l:List Int,(l.map λ_=>1).sum+1=l.length+1
 |[]=>rfl
 |v::r=>by have:=a4Y r;rw[List.map_cons,List.sum_cons,fx];omega
theorem a4Z(d:cR):(d.bm.length+1)+((d.Value.map zV).sum+1)+1+1=zD d:=by unfold zD;rw[YN]
theorem a50:∀l:List cR,(l.map λd=>(d.bm.length+1)+((d.Value.map zV).sum+1)+1+1).sum+1=rI l+1
 |[]=>rfl
 |v::r=>by have:=a50 r;rw[rI,List.map_cons,List.sum_cons,a4Z];omega
theorem a52:∀l:List (List a7),(l.map rJ).sum+1=kf l+1
 |[]=>rfl
 |v::r=>by have:=a52 r;rw[kf,List.map_cons,List.sum_cons];omega
end Go.Proofs.YtdkddffedangnaaGreatDoor
namespace Go.V
def qf(t:Int→Bool):Nat→Nat→Option Int
 |0,_=>none
 |k+1,i=>cond (t i) (some (i:Int)) (qf t k (i+1))
theorem YQ{β:Type}{i N:Int}{X Y:Option β}(hi:0≤i):cond (decide (i<N)) (az (0≤i∧i<N) X) Y=cond (decide (i<N)) X Y:=by
 by_cases h:i<N
 ·rw[cd ⟨hi,h⟩]
 ·rw[eK h];rfl
theorem YR{β:Type}(F:Nat→Int→Option β)(t:Int→Bool)(hit:Int→β)(a54:β)(N:Int)(n:Nat)(hN:N=n)(hn:n<4611686018427387904)
  (hF:∀kk (i:Int),0≤i→F (kk+1) i=cond (decide (i<N)) (cond (t i) (some (hit i)) (F kk (J (i+1)))) (some a54)):
  ∀(k i kk:Nat),k=n-i→i≤n→k<kk→F kk (i:Int)=some (((qf t k i).map hit).getD a54):=by
 subst hN;intro k
 induction k with
 |zero=>
  intro i kk hk hi uf;obtain⟨kk,rfl⟩:∃q,kk=q+1:=⟨kk-1,by omega⟩;rw[hF kk i (by omega)];have:decide ((i:Int)<n)=false:=eK (by omega);rw[this];rfl
 |succ k ih=>
  intro i kk hk hi uf;obtain⟨kk,rfl⟩:∃q,kk=q+1:=⟨kk-1,by omega⟩;rw[hF kk i (by omega)];have:decide ((i:Int)<n)=true:=kq (by omega);rw[this,bQ (by omega)];simp only[bB];rw[qf];cases t i
  ·simp only[bh];exact ih (i+1) kk (by omega) (by omega) (by omega)
  ·rfl
theorem NR(t:Int→Bool):∀(k i:Nat)(r:Int),qf t k i=some r→(i:Int)≤r∧r<(i+k:Nat)
 |0,_,_,h=>by cases h
 |k+1,i,r,h=>by
  rw[qf]at h;cases ht:t i<;>rw[ht]at h
  ·have:=NR t k (i+1) r h;omega
  ·cases h;omega
end Go.V
namespace Go.Proofs.YtdkddffedangnaaGreatDoor
open Go Go.V Go.RowKit
def iD:List fo:=(Fy 64).getD []
theorem YS:Fy 64=some iD:=by kernel_rfl
theorem YT:ln iD=((18:Nat):Int):=by kernel_rfl
def find(s:a7):Option Int:=qf (λi=>(gi iD i).bm==s) 18 0
def vD(s:a7):Int×Int:=match find s with
 |none=>(0,6)
 |some i=>(i,0)
theorem a55(s:a7):Ir 64 s=some (vD s):=by
 have h:=YR (Mv 64 iD s) (λi=>(gi iD i).bm==s) (λi=>Sum.inl i) (Sum.inr ()) (ln iD) 18 YT (by decide)
  (λkk i hi=>by rw[Mv];exact YQ hi) 18 0 64 rfl (by decide) (by decide)
 unfold Ir;rw[YS];simp only[aN];unfold QI;rw[show(0:Int)=((0:Nat):Int)from rfl,h];unfold vD find;cases hf:qf (λi=>(gi iD i).bm==s) 18 0 with
 |none=>rfl
 |some r=>
  have h0:=NR _ _ _ _ hf;have h1:decide (r<0)=false:=eK (by omega);simp only[Option.map_some,Option.getD_some,aN,de];show cond (decide (r<0)) _ _=_;rw[h1];rfl
theorem ahB{s:a7}(h:(vD s).2=0):0≤(vD s).1∧(vD s).1<ln iD:=by
 rw[YT];unfold vD find at h⊢;cases hf:qf (λi=>(gi iD i).bm==s) 18 0 with
 |none=>rw[hf]at h;cases h
 |some r=>
  have h0:=NR _ _ _ _ hf;show 0≤r∧r<_;omega
def Bn(s:a7):Bool:=decide (2<ln s)&&decide (ln s≤64)&&sub s 0 2==[45,45]
theorem a56(s:a7):Ij s=some (Bn s):=by
 unfold Ij Au Cr;rw[show ln ([45,45]:a7)=2 from rfl,cd (λh=>⟨by decide,uD h⟩)];simp only[lt_eq,aN];congr 1;unfold Bn;by_cases h2:2<ln s
 ·have:(2:Int)≤ln s:=by omega
  simp[h2,this];cases(sub s 0 2==[45,45])<;>simp
 ·simp[h2]
def DN(s:a7):Bool×Int:=cond (Bn s) (true,0) (cond ((vD s).2 !=0) (false,(vD s).2) ((gi iD (vD s).1).Qu,0))
theorem ahC(s:a7):Is 64 s=some (DN s):=by
 unfold Is;rw[a56];simp only[aN];unfold DN;cases Bn s
 ·simp only[bh];rw[a55];simp only[aN];cases h:((vD s).2 !=0)
  ·simp only[bh];rw[YS];simp only[aN];rw[cd (ahB (by simpa using h))]
  ·rfl
 ·rfl
theorem NS(l:List a7)(x:a7)(h:l.length<60):zh 64 l x=some (qf (λi=>x==gi l i) l.length 0).isSome:=by
 have h1:=YR (M1 64 l x) (λi=>x==gi l i) (λi=>Sum.inl i) (Sum.inr ()) (ln l) l.length rfl (by omega)
  (λkk i hi=>by rw[M1];exact YQ hi) l.length 0 64 rfl (by omega) (by omega)
 unfold zh Qg;rw[show(0:Int)=((0:Nat):Int)from rfl,h1];cases hf:qf (λi=>x==gi l i) l.length 0 with
 |none=>rfl
 |some r=>
  have h0:=NR _ _ _ _ hf;have h2:decide (((0:Nat):Int)≤r)=true:=kq (by omega);show some (decide (((0:Nat):Int)≤r))=_;rw[h2];rfl
theorem qg(x:aq):cG x.aa+6<zV x:=by
 obtain⟨t,l⟩:=x;simp only[zV,aq.aa,zT];omega
theorem rK{x:aq}:∀{l:List aq},x∈l→zV x≤cG l
 |[],h=>by cases h
 |y::l,h=>by
  rcases List.mem_cons.1 h with rfl|h
  ·simp only[cG];omega
  ·have:=rK h;simp only[cG];omega
theorem rL:∀l:List aq,l.length≤cG l
 |[]=>du _
 |y::l=>by have:=rL l;have:=qg y;simp only[cG,fx];omega
theorem rM{α:Type}[Inhabited α]{l:List α}{i:Nat}(h:i<l.length):gi l (i:Int)∈l:=by rw[hZ l i h];exact List.getElem_mem h
def nB(k:Int):Int:=qB k
theorem a57(k:Int):pZ k=nB k:=by
 unfold pZ nB qB;simp only[lt_eq];by_cases h2:k=2
 ·subst h2;rfl
 by_cases h19:k=19
 ·subst h19;rfl
 by_cases h21:k=21
 ·subst h21;rfl
 by_cases h23:k=23
 ·subst h23;rfl
 have b2:(k==2)=false:=by simpa using h2
 have Xa:(k==19)=false:=by simpa using h19
 have M4:(k==21)=false:=by simpa using h21
 have Pq:(k==23)=false:=by simpa using h23
 rw[b2,Xa,M4,Pq];rfl
mutual
def S6:aq→Nat
 | .mk t l=>cond (nB t.af==0) 0 (1+nE l)
def nE:List aq→Nat
 |[]=>0
 |v::r=>max (S6 v) (nE r)
end
mutual
def NT:aq→Nat
 | .mk t l=>cond (nB t.af==0) 1 (1+kg l+1)
def kg:List aq→Nat
 |[]=>0
 |v::r=>NT v+kg r
end
mutual
def S7:Int→aq→Bool
 |c,.mk t l=>cond (c !=0) (t.af==c) false||cond (nB t.af==0) (decide (0<ln l)) (vE (nB t.af) l)
def vE:Int→List aq→Bool
 |_,[]=>false
 |c,v::r=>S7 c v||vE c r
end
theorem a58(x:aq):S6 x=cond (nB x.aT.af==0) 0 (1+nE x.aa):=by obtain⟨t,l⟩:=x;rw[S6];rfl
theorem NU(x:aq):NT x=cond (nB x.aT.af==0) 1 (1+kg x.aa+1):=by obtain⟨t,l⟩:=x;rw[NT];rfl
theorem ahD(c:Int)(x:aq):S7 c x=(cond (c !=0) (x.aT.af==c) false||cond (nB x.aT.af==0) (decide (0<ln x.aa)) (vE (nB x.aT.af) x.aa)):=by obtain⟨t,l⟩:=x;rw[S7];rfl
theorem ahE{l:List aq}{i:Nat}(h:i<l.length):nE (l.drop i)=max (S6 (gi l (i:Int))) (nE (l.drop (i+1))):=by
 rw[ov h,nE,hZ l i h]
theorem YU{l:List aq}{i:Nat}(h:i<l.length):kg (l.drop i)=NT (gi l (i:Int))+kg (l.drop (i+1)):=by
 rw[ov h,kg,hZ l i h]
theorem ahF(c:Int){l:List aq}{i:Nat}(h:i<l.length):vE c (l.drop i)=(S7 c (gi l (i:Int))||vE c (l.drop (i+1))):=by
 rw[ov h,vE,hZ l i h]
theorem YV(n:Nat):∀v:List aq,cG v≤n→kg v≤cG v∧nE v≤cG v:=by
 induction n with
 |zero=>
  intro v h;cases v with
  |nil=>exact⟨du _,du _⟩
  |cons x r=>have:=qg x;simp only[cG]at h;omega
 |succ n ih=>
  intro v
  induction v with
  |nil=>intro _;exact⟨du _,du _⟩
  |cons x r Gx=>
   intro h;have hk:=qg x;rw[cG]at h;have h1:=Gx (by omega);have h2:=ih x.aa (by omega);rw[kg,cG,nE,NU,a58];cases(nB x.aT.af==0)<;>simp only[bB,bh]<;>omega
theorem ahG(m:Nat)(v:List aq)(c:Int)(rec:List aq→Int→Option ze)(hl:cG v≤1048576)(hr:∀x∈v,∀c,rec x.aa c=some ⟨((nE x.aa:Nat):Int),((kg x.aa:Nat):Int),vE c x.aa⟩):
  ∀(kk i a t:Nat)(b:Bool),v.length-i<kk→i≤v.length→a≤1048577→t+kg (v.drop i)≤1048577→
   LD m v c rec kk (i:Int) (a:Int) (t:Int) b=some (((max a (nE (v.drop i)):Nat):Int),((t+kg (v.drop i):Nat):Int),b||vE c (v.drop i)):=by
 have hlen:=rL v;intro kk
 induction kk with
 |zero=>intro i a t b h;omega
 |succ kk ih=>
  intro i a t b h hi ha yx;rw[LD];by_cases h1:i<v.length
  ·have hm:=rM h1;have hz:=rK hm;have hk:=qg (gi v (i:Int));have aml:=YV _ (gi v (i:Int)).aa (du _);rw[YU h1,NU]at yx;rw[qw h1,bB,ej h1,lt_eq,lt_eq,ahF c h1,ahD,ahE h1,a58,YU h1,NU,a57,hr _ hm];have wi:J ((i:Int)+1)=((i+1:Nat):Int):=bQ (by omega);have amm:t+1≤1048577:=by
    cases hq:(nB (gi v (i:Int)).aT.af==0)<;>rw[hq]at yx<;>simp only[bB,bh]at yx<;>omega
   have w1:J ((t:Int)+1)=((t+1:Nat):Int):=bQ (by omega);unfold bne;cases hc:(nB (gi v (i:Int)).aT.af==0)
   ·rw[hc]at yx;simp only[bh]at yx;have w2:J (((nE (gi v (i:Int)).aa:Nat):Int)+1)=((nE (gi v (i:Int)).aa+1:Nat):Int):=bQ (by omega);have w3:J (J (J ((t:Int)+1)+((kg (gi v (i:Int)).aa:Nat):Int))+1)=((t+(1+kg (gi v (i:Int)).aa+1):Nat):Int):=by
     rw[w1,na (x:=((t+1:Nat):Int)+_) (by omega) (by omega),na (by omega) (by omega)];omega
    have e:(if(a:Int)<((nE (gi v (i:Int)).aa+1:Nat):Int)then((nE (gi v (i:Int)).aa+1:Nat):Int)else(a:Int))=((max a (1+nE (gi v (i:Int)).aa):Nat):Int):=by split<;>omega
    have YW:=λb=>ih (i+1) (max a (1+nE (gi v (i:Int)).aa)) (t+(1+kg (gi v (i:Int)).aa+1)) b (by omega) (by omega) (by omega) (by omega);cases hz:(c==0)<;>cases hk:((gi v (i:Int)).aT.af==c)<;>cases hs:vE (nB (gi v (i:Int)).aT.af) (gi v (i:Int)).aa<;>cases b<;>
     simp only[U2,wk,bB,bh,aN,lt_eq,KG,Bool.true_or,Bool.or_false,Bool.or_true,w2,w3,wi,e,YW]<;>simp only[Nat.max_assoc,Nat.add_assoc]
   ·rw[hc]at yx;simp only[bB]at yx;have YW:=λb=>ih (i+1) a (t+1) b (by omega) (by omega) (by omega) (by omega);cases hz:(c==0)<;>cases hk:((gi v (i:Int)).aT.af==c)<;>cases hs:decide (0<ln (gi v (i:Int)).aa)<;>cases b<;>
     simp only[U2,wk,bB,bh,aN,lt_eq,KG,Bool.true_or,Bool.or_false,Bool.or_true,w1,wi,YW]<;>simp only[Nat.zero_max,Nat.add_assoc]
  ·rw[mB (by omega),bh,yP (by omega),vE,nE,kg,Bool.or_false,Nat.max_zero,Nat.add_zero]
theorem a5a(m:Nat)(hm:1048577<m):∀(k:Nat)(v:List aq)(c:Int),cG v<k→cG v≤1048576→F8 m k v c=some ⟨((nE v:Nat):Int),((kg v:Nat):Int),vE c v⟩:=by
 intro k
 induction k with
 |zero=>intro v c h;omega
 |succ k ih=>
  intro v c h hb;have hl:=rL v;have hk:=(YV _ v (du _)).1;have hn:=ahG m v c (F8 m k) hb (λx hx c=>by
   have h1:=rK hx;have h2:=qg x;exact ih _ _ (by omega) (by omega)) m 0 0 0 false (by omega) (by omega) (by omega) (by rw[pa];omega)
  rw[F8];rw[show(0:Int)=((0:Nat):Int)from rfl,hn,aN,pa,Nat.zero_max,Nat.zero_add,KG]
def Gy(v:List aq):Int:=if 16<nE v then 20 else if 1500<kg v then 4 else if vE 0 v then 8 else 0
theorem S8(m:Nat)(hm:1048577<m)(v:List aq)(hb:cG v≤1048576):Cq m v=some (Gy v):=by
 unfold Cq LH Gy;rw[a5a m hm m v 0 (by omega) hb,aN];have e1:decide ((16:Int)<((nE v:Nat):Int))=decide (16<nE v):=by simp;omega
 have e2:decide ((1500:Int)<((kg v:Nat):Int))=decide (1500<kg v):=by simp;omega
 show cond (decide ((16:Int)<((nE v:Nat):Int))) _ _=_;rw[e1,e2];by_cases h1:16<nE v
 ·simp[h1]
 ·by_cases h2:1500<kg v
  ·simp[h1,h2]
  ·cases vE 0 v<;>simp[h1,h2]
theorem ahH(m:Nat)(v:List aq)(rec:List aq→Option (List aq))(hl:cG v≤1048576)(hr:∀x∈v,rec x.aa=some x.aa):
  ∀(kk i:Nat),v.length-i<kk→i≤v.length→MY m v rec kk (v.take i) (i:Int)=some v:=by
 have hlen:=rL v;intro kk
 induction kk with
 |zero=>intro i h;omega
 |succ kk ih=>
  intro i h hi;rw[MY];by_cases h1:i<v.length
  ·rw[qw h1,bB,ej h1,hr _ (rM h1),aN,cd (by unfold ln;rw[List.length_take];simp only[fx,ia];omega),lt_eq,bQ (by omega)];have e:v.take i++[aq.mk (gi v (i:Int)).aT (gi v (i:Int)).aa]=v.take (i+1):=by
    rw[List.take_succ_eq_append_getElem h1,hZ v i h1];obtain⟨t,l⟩:=v[i];rfl
   rw[e];exact ih (i+1) (by omega) (by omega)
  ·rw[mB (by omega),bh,List.take_of_length_le (by omega)]
theorem ahI(m:Nat)(hm:1048577<m):∀(k:Nat)(v:List aq),cG v<k→cG v≤1048576→FM m k v=some v:=by
 intro k
 induction k with
 |zero=>intro v h;omega
 |succ k ih=>
  intro v h hb;have hl:=rL v;have hn:=ahH m v (FM m k) hb (λx hx=>by
   have h1:=rK hx;have h2:=qg x;exact ih _ (by omega) (by omega)) m 0 (by omega) (by omega)
  rw[List.take_zero]at hn;rw[FM];rw[show(0:Int)=((0:Nat):Int)from rfl,hn,aN]
abbrev FU:Nat:=3300000
theorem YX:1048577<FU:=by decide
def kH:a7:=[109,97,114,103,105,110]
def zJ(w:a7):Bool:=cond (w==[98,111,114,100,101,114]) true (cond (w==[111,117,116,108,105,110,101]) true (w==[98,97,99,107,103,114,111,117,110,100]))
def S9:List a7:=[[109,97,114,103,105,110,45,116,111,112],[109,97,114,103,105,110,45,114,105,103,104,116],[109,97,114,103,105,110,45,98,111,116,116,111,109],[109,97,114,103,105,110,45,108,101,102,116]]
def mv(w:a7):List a7×Int:=cond (w==kH) (S9,0) (cond (zJ w) ([w++[45,99,111,108,111,114]],0) (cond ((DN w).2 !=0) ([],6) ([w],0)))
theorem ahJ(w:a7):(DN w).2=0∨(DN w).2=6:=by
 unfold DN;cases Bn w
 ·rw[bh];unfold vD;cases find w with
  |none=>exact Or.inr rfl
  |some r=>exact Or.inl rfl
 ·exact Or.inl rfl
theorem YY(a b c d x:a7):(qf (λi=>x==gi [a,b,c,d] i) 4 0).isSome=cond (x==a) true (cond (x==b) true (cond (x==c) true (x==d))):=by
 simp only[qf];rw[show gi [a,b,c,d] ((0:Nat):Int)=a from rfl,show gi [a,b,c,d] ((0+1:Nat):Int)=b from rfl,show gi [a,b,c,d] ((0+1+1:Nat):Int)=c from rfl,show gi [a,b,c,d] ((0+1+1+1:Nat):Int)=d from rfl];cases(x==a)<;>cases(x==b)<;>cases(x==c)<;>cases(x==d)<;>rfl
theorem ahK(w:a7)(hw:w.length≤1048576):Mw 64 w=some (mv w):=by
 unfold Mw CC mv;rw[lt_eq,NS AK w (by decide),aN];rw[show(qf (λi=>w==gi AK i) AK.length 0).isSome=cond (w==kH) true (zJ w)from YY _ _ _ _ w];cases hm:(w==kH)
 ·rw[bh,lt_eq];cases hs:zJ w
  ·rw[U2,bB,aN,bh];show Option.bind (Is 64 w) _=_;rw[ahC,aN];rcases ahJ w with h|h<;>rw[h]<;>rfl
  ·rw[wk,bh,show(!(w==([109,97,114,103,105,110]:a7)))=true from by rw[show(w==([109,97,114,103,105,110]:a7))=false from hm];rfl,bB,cd (by unfold ln;simp only[fx,ia];omega),aN];rfl
 ·have e:w=kH:=eq_of_beq hm;subst e;rw[show Mg 64 kH 64 [] 0=some S9 from by kernel_rfl];rfl
theorem ahL(w:a7):(mv w).1.length≤4:=by
 unfold mv;cases(w==kH)<;>cases zJ w<;>cases((DN w).2 !=0)<;>exact Nat.le_of_ble_eq_true rfl
theorem ahM{s:a7}{i:Nat}(h:i<s.length):s.drop i=s[i]::s.drop (i+1):=ov h
theorem a5b{p:Nat→Bool}{k n:Nat}(h:((List.range k).all p)=true)(hn:n<k):p n=true:=List.all_eq_true.1 h n (List.mem_range.2 hn)
theorem ahN{s:a7}{i:Nat}(h:i<s.length):sub s (i:Int) ((i+1:Nat):Int)=[s[i]]:=by
  unfold sub;rw[Int.toNat_natCast,Int.toNat_natCast,show i+1-i=1 from by omega,ahM h];rfl
abbrev Bo(x:dd):Prop:=(Lit.int .u8 x.jX).wf=true∧(Lit.int .u8 x.jY).wf=true∧(Lit.int .u8 x.jZ).wf=true∧(Lit.int .u8 x.k6).wf=true
def c0:dd:=dd.mk 0 0 0 0
theorem ahO(x:aq):x.aT.di.length≤zV x∧x.aT.Unit.length≤zV x:=by
  obtain⟨t,l⟩:=x;simp only[zV,zT,aq.aT];omega
theorem ahP(m:Nat)(s:a7)(hs:s.length≤1048576):∀(kk i:Nat)(b:List Int),s.length-i<kk→i≤s.length→∃r,MA m s kk (i:Int) b=some r:=by
  intro kk
  induction kk with
  |zero=>intro i b h;omega
  |succ kk ih=>
    intro i b h hi;have hl:(bO s).length=s.length:=by simp[bO]
    rw[MA];by_cases h1:i<s.length
    · rw[qw (by rw[hl];exact h1),bB,ej (by rw[hl];exact h1),lt_eq,bQ (by omega)];cases(cond (decide (65≤gi b (i:Int))) (decide (gi b (i:Int)≤90)) false)
      · exact ih (i+1) _ (by omega) (by omega)
      · exact ih (i+1) _ (by omega) (by omega)
    · rw[mB (by rw[hl];omega),bh];exact⟨_,rfl⟩
theorem Sa(s:a7)(hs:s.length≤1048576):∃r,CJ FU s=some r:=by
  obtain⟨r,h⟩:=ahP FU s hs FU 0 (bO s) (by unfold FU;omega) (fI _);exact⟨iL r,by unfold CJ;rw[show(0:Int)=((0:Nat):Int)from rfl,h];rfl⟩
theorem DO(x:Int):(Lit.int .u8 (dc x)).wf=true:=by
  have h1:0≤dc x∧dc x<256:=by rw[a1h];omega
  have h2:IntKind.u8.min=0:=by decide
  have h3:IntKind.u8.max=255:=by decide
  simp only[Lit.wf,h2,h3,Bool.and_eq_true,decide_eq_true_eq];omega
def YZ(c:dd):Bool:=(Lit.int .u8 c.jX).wf&&(Lit.int .u8 c.jY).wf&&(Lit.int .u8 c.jZ).wf&&(Lit.int .u8 c.k6).wf
theorem a5c{c:dd}(h:YZ c=true):Bo c:=by
  unfold YZ at h;simp only[Bool.and_eq_true]at h;exact⟨h.1.1.1,h.1.1.2,h.1.2,h.2⟩
theorem JU:Bo c0:=a5c (by decide)
theorem ahQ:((List.range 9).all λ(n:Nat)=>YZ (dd.mk (gi ([0,255,255,0,0,255,128,0,0]:List Int) (n:Int)) (gi ([0,255,0,255,0,255,128,0,0]:List Int) (n:Int)) (gi ([0,255,0,0,255,0,128,0,0]:List Int) (n:Int)) (gi ([255,255,255,255,255,255,255,0,0]:List Int) (n:Int))))=true:=by kernel_rfl
theorem ahR(s:a7)(hs:s.length≤1048576):∃c e,MB FU s=some (c,e)∧Bo c:=by
  obtain⟨y,hy⟩:=Sa s hs;unfold MB;rw[hy];simp only[lt_eq,aN];have hk:=P5 ([[98,108,97,99,107],[119,104,105,116,101],[114,101,100],[108,105,109,101],[98,108,117,101],[121,101,108,108,111,119],[103,114,97,121],[116,114,97,110,115,112,97,114,101,110,116]]:List a7) y;unfold s5;generalize kx ([[98,108,97,99,107],[119,104,105,116,101],[114,101,100],[108,105,109,101],[98,108,117,101],[121,101,108,108,111,119],[103,114,97,121],[116,114,97,110,115,112,97,114,101,110,116]]:List a7) y=n at*;have hn:n<9:=by simp only[fx,ia]at hk;omega
  have hw:=a5c (a5b ahQ hn);cases(!(decide ((n:Int)<8)))
  · exact⟨_,_,rfl,hw⟩
  · exact⟨_,_,rfl,JU⟩
/-! ## Hashes -/
def DP(n:Int):Bool:=cond (cond (cond (decide (n<48)) true (decide (57<n))) (cond (decide (n<97)) true (decide (102<n))) false) (cond (decide (n<65)) true (decide (70<n))) false
def Sb(n:Int):Option Int:=cond (cond (n==95) ((16:Int)==0) false) none (cond (cond (decide (48≤n)) (decide (n≤57)) false) (some (dc (n-48))) (cond (cond (decide (97≤iZ n)) (decide (iZ n≤122)) false) (some (dc (dc (iZ n-97)+10))) none))
theorem ahS:((List.range 256).all λ(n:Nat)=>DP (n:Int)||(match Sb (n:Int)with
    |some d=>decide (0≤d)&&decide (d<16)
    |none=>false))=true:=by kernel_rfl
theorem ahT{n:Nat}(hn:n<256)(h:DP (n:Int)=false):∃d:Nat,d<16∧Sb (n:Int)=some (d:Int):=by
  have h1:=a5b ahS hn;rw[h,KG]at h1;cases hv:Sb (n:Int)with
  |none=>rw[hv]at h1;cases h1
  |some d=>
    rw[hv]at h1;simp only[Bool.and_eq_true,decide_eq_true_eq]at h1;exact⟨d.toNat,by omega,by rw[show((d.toNat:Nat):Int)=d from by omega]⟩
theorem ahU(m:Nat)(z:a7)(hl:z.length=8)(hz:∀b∈z,DP (b.toNat:Int)=false):∀(kk i v:Nat),8-i<kk→i≤8→v<16^i→
    ∃v':Int,FB m 16 (z,16) 1152921504606846976 4294967296 kk false (v:Int) (i:Int)=some (.inr (false,v')):=by
  intro kk
  induction kk with
  |zero=>intro i v h;omega
  |succ kk ih=>
    intro i v h hi hv;rw[FB];have eP:(bO z).length=8:=by unfold bO;rw[List.length_map,hl]
    by_cases h1:i<8
    · have E4:i<z.length:=by omega
      have hg:gi (bO z) (i:Int)=((z[i].toNat:Nat):Int):=by
        rw[hZ _ i (by omega)];unfold bO;rw[List.getElem_map]
      obtain⟨d,hdi,yy⟩:=ahT z[i].toNat_lt (hz _ (List.getElem_mem E4));generalize((z[i].toNat:Nat):Int)=c at*;have e8:16^8=4294967296:=by decide
      have hp:16^(i+1)≤16^8:=Nat.pow_le_pow_right (by decide) (by omega);have hp1:16^(i+1)=16^i*16:=Nat.pow_succ ..;have hv2:16*v+d<16^(i+1):=by omega
      rw[show decide ((i:Int)<ln (bO z))=true from qw (by omega),bB,ej (by omega:i<(bO z).length)];show∃v':Int,Option.bind (Option.bind (lt (cond (gi (bO z) (i:Int)==95) ((16:Int)==0) false) _) _) _=_;rw[hg,lt_eq];have KA:(cond (cond (c==95) ((16:Int)==0) false) (Option.bind (some (Sum.inr (true,(v:Int)))) λQN=>some (Sum.inl QN)) (
          lt (cond (decide (48≤c)) (decide (c≤57)) false) λQO=>
          cond QO (some (Sum.inr (false,dc (c-48)))) (
          lt (decide (97≤iZ c)) λAD=>
          lt (cond AD (decide (iZ c≤122)) false) λFC=>
          cond FC (lt (dc (iZ c-97)) λME=>some (Sum.inr (false,dc (ME+10)))) none)):Option (Sum (Sum (Sum Int (Bool×Int)) (Bool×Int)) (Bool×Int)))=some (.inr (false,(d:Int))):=by
        simp only[lt_eq];unfold Sb at yy
        revert yy
        generalize(cond (c==95) ((16:Int)==0) false)=b1;generalize(cond (decide (48≤c)) (decide (c≤57)) false)=b2;generalize(cond (decide (97≤iZ c)) (decide (iZ c≤122)) false)=b3;intro yy;cases b1
        · cases b2
          · cases b3
            · cases yy
            · have:=Option.some.inj yy;simp only[bh,bB,this]
          · have:=Option.some.inj yy;simp only[bh,bB,this]
        · cases yy
      rw[KA,aN];have c1:decide ((16:Int)≤(d:Int))=false:=eK (by omega);have c2:decide ((1152921504606846976:Int)≤(v:Int))=false:=eK (by omega);have w1:cI ((v:Int)*cI 16)=((16*v:Nat):Int):=by rw[show cI 16=16 from rfl,Ab (by omega) (by omega)];omega
      have w2:cI (((16*v:Nat):Int)+cI (d:Int))=((16*v+d:Nat):Int):=by rw[Ab (x:=(d:Int)) (by omega) (by omega),Ab (by omega) (by omega)];omega
      show∃v':Int,Option.bind (cond (decide (dc 16≤(d:Int))) none (cond (decide ((1152921504606846976:Int)≤(v:Int))) none _)) _=_;rw[show dc 16=16 from rfl,c1,bh,c2,bh];show∃v':Int,Option.bind (lt (cI (cI ((v:Int)*cI 16)+cI (d:Int))) _) _=_;rw[w1,w2,lt_eq,eK (show¬((16*v+d:Nat):Int)<((16*v:Nat):Int)from by omega),lt_eq];show∃v':Int,Option.bind (lt (decide (cI ((4294967296:Int)-1)<((16*v+d:Nat):Int))) _) _=_;rw[show cI ((4294967296:Int)-1)=4294967295 from rfl,eK (by omega),lt_eq,bh,aN,bQ (by omega)];exact ih (i+1) (16*v+d) (by omega) (by omega) hv2
    · have hi8:i=8:=by omega
      subst hi8;rw[show decide (((8:Nat):Int)<ln (bO z))=false from mB (by omega),bh];exact⟨_,rfl⟩
theorem ahV(z:a7)(hl:z.length=8)(hz:∀b∈z,DP (b.toNat:Int)=false):∃n,FF FU z 16 32=some n:=by
  obtain⟨v',h⟩:=ahU FU z hl hz FU 0 0 (by decide) (by decide) (by decide);have hQ:(z==[])=false:=by
    cases z with
    |nil=>cases hl
    |cons d r=>rfl
  unfold FF QP;rw[hQ,bh];show∃n,Option.bind (Option.bind (FB FU 16 (z,16) 1152921504606846976 4294967296 FU false 0 0) _) _=_;rw[show FB FU 16 (z,16) 1152921504606846976 4294967296 FU false 0 0=_ from h];exact⟨_,rfl⟩
theorem ahW(m:Nat)(s:a7)(hs:s.length≤10):∀(kk i:Nat)(a:a7),s.length-i<kk→i≤s.length→a.length≤2*i→∃r,Iw m s kk a (i:Int)=some r∧r.length≤2*s.length:=by
  intro kk
  induction kk with
  |zero=>intro i a h;omega
  |succ kk ih=>
    intro i a h hi ha;rw[Iw];by_cases h1:i<s.length
    · rw[qw h1,bB,bQ (by omega),cd ⟨by omega,by omega,by unfold ln;omega⟩,ahN h1,cd (by unfold ln;simp),lt_eq,cd (by unfold ln;simp only[fg,fx,ia];omega)];exact ih (i+1) _ (by omega) (by omega) (by simp only[fg,fx,ia];omega)
    · rw[mB (by omega),bh];exact⟨_,rfl,by omega⟩
theorem ahX(m:Nat)(z:a7)(hs:z.length≤10):∀(kk i:Nat),z.length-i<kk→i≤z.length→(∀b∈z.take i,DP (b.toNat:Int)=false)→
    vo m z kk (i:Int)=some (.inl (c0,false))∨(vo m z kk (i:Int)=some (.inr ())∧∀b∈z,DP (b.toNat:Int)=false):=by
  intro kk
  induction kk with
  |zero=>intro i h;omega
  |succ kk ih=>
    intro i h hi ht;by_cases h1:i<z.length
    · have e:vo m z (kk+1) (i:Int)=cond (DP ((z[i].toNat:Nat):Int)) (some (.inl (c0,false))) (vo m z kk ((i+1:Nat):Int)):=by
        rw[vo,qw h1,bB,ej h1,a89 z i h1,lt_eq,lt_eq,lt_eq,bQ (by omega)];rfl
      rw[e];cases hh:DP ((z[i].toNat:Nat):Int)
      · refine ih (i+1) (by omega) (by omega) λb hb=>?_;rw[List.take_succ_eq_append_getElem h1]at hb;rcases List.mem_append.1 hb with hb|hb
        · exact ht b hb
        · rw[List.mem_singleton.1 hb];exact hh
      · exact Or.inl rfl
    · rw[vo,mB (by omega),bh];rw[List.take_of_length_le (by omega)]at ht;exact Or.inr ⟨rfl,ht⟩
theorem ahY(s:a7)(hs:s.length≤1048570):∃c b,MG FU s=some (c,b)∧Bo c:=by
  have key:∀z:a7,z.length≤1048576→∃c b,(cond (ln z !=8) (some (dd.mk 0 0 0 0,false)) (
      Option.bind (vo FU z FU 0) λ(z51:Sum (dd×Bool) Unit)=>de z51 λMH=>
      Option.bind (FF FU z 16 32) λfA=>
      some (dd.mk (dc (Int.fdiv fA (2^24))) (dc (Int.fdiv fA (2^16))) (dc (Int.fdiv fA (2^8))) (dc fA),true)):Option (dd×Bool))=some (c,b)∧Bo c:=by
    intro z hz;by_cases h8:ln z=8
    · rw[h8,bne_self_eq_false,bh];have hl:z.length=8:=by unfold ln at h8;omega
      rcases ahX FU z (by omega) FU 0 (by unfold FU;omega) (fI _) (λ_ h=>by cases h)with h|⟨h,A5⟩
      · rw[show vo FU z FU 0=_ from h];exact⟨_,_,rfl,JU⟩
      · rw[show vo FU z FU 0=_ from h];obtain⟨n,hn⟩:=ahV z hl A5;rw[hn];exact⟨_,_,rfl,DO _,DO _,DO _,DO _⟩
    · rw[show(ln z !=8)=true from bne_iff_ne.2 h8];exact⟨_,_,rfl,JU⟩
  have k2:∀z:a7,z.length≤1048570→∃c b,(Option.bind (cond (ln z==6) (az (ln z+ln ([102,102]:a7)≤9223372036854775807) (some (z++[102,102]))) (some z)) λ(ek:a7)=>
      cond (ln ek !=8) (some (dd.mk 0 0 0 0,false)) (
      Option.bind (vo FU ek FU 0) λ(z51:Sum (dd×Bool) Unit)=>de z51 λMH=>
      Option.bind (FF FU ek 16 32) λfA=>
      some (dd.mk (dc (Int.fdiv fA (2^24))) (dc (Int.fdiv fA (2^16))) (dc (Int.fdiv fA (2^8))) (dc fA),true)):Option (dd×Bool))=some (c,b)∧Bo c:=by
    intro z hz;cases(ln z==6)
    · rw[bh,aN];exact key z (by omega)
    · rw[bB,cd (by unfold ln;simp only[fx,ia];omega),aN];exact key _ (by simp only[fg,fx,ia];omega)
  unfold MG;by_cases Sc:ln s=3∨ln s=4
  · have hl:s.length≤10:=by unfold ln at Sc;omega
    have hc:cond (ln s==3) true (ln s==4)=true:=by
      rcases Sc with h|h<;>rw[h]<;>rfl
    obtain⟨r,hr,hrl⟩:=ahW FU s hl FU 0 [] (by unfold FU;omega) (fI _) (fI _);rw[hc,bB,show Iw FU s FU [] 0=_ from hr,aN,aN];exact k2 r (by omega)
  · have hc:cond (ln s==3) true (ln s==4)=false:=by
      rw[show(ln s==3)=false from yO.2 (λh=>Sc (Or.inl h)),show(ln s==4)=false from yO.2 (λh=>Sc (Or.inr h))];rfl
    rw[hc,bh,aN];exact k2 s hs
/-! ## Functions -/
def cn(s:a7):Nat:=s.countP λb=>b==110
theorem a5d(a:a7)(b:UInt8):cn (a++[b])=cn a+cond (b==110) 1 0:=by
  unfold cn;rw[List.countP_append];cases h:(b==110)<;>simp[h]
theorem ahZ(t:cC)(u:a7)(l:List Int)(hu:u.length≤1048576)(hl:l.length=cn u):∃u' l',MI t u l=some (u',l')∧u'.length≤u.length+1∧l'.length=cn u':=by
  have hcu:cn u≤u.length:=List.countP_le_length;have ap:∀b:UInt8,(u++[b]).length≤u.length+1:=λb=>by simp
  have no:∀b:UInt8,(b==110)=false→l.length=cn (u++[b]):=λb h=>by rw[a5d,h,hl];rfl
  unfold MI;have ck:∀{α:Type}(b:α),ln u+ln [b]≤9223372036854775807:=λb=>by unfold ln;simp only[fx,ia];omega
  cases(t.af==13)
  · rw[bh];cases(t.af==10)
    · rw[bh];cases(t.af==18)
      · rw[bh,lt_eq];cases(cond (t.af==9) (t.di==[47]) false)
        · rw[bh,cd (ck _)];exact⟨_,_,rfl,ap _,no 120 rfl⟩
        · rw[bB,cd (ck _)];exact⟨_,_,rfl,ap _,no 47 rfl⟩
      · rw[bB,cd (ck _)];exact⟨_,_,rfl,ap _,no 44 rfl⟩
    · rw[bB,cd (ck _),cd (by unfold ln;simp only[fx,ia];omega),lt_eq];refine⟨_,_,rfl,ap _,?_⟩;rw[a5d,fg,hl];rfl
  · exact⟨_,_,rfl,by omega,hl⟩
theorem ai0(m:Nat)(l:List aq)(hl:l.length≤1048576):∀(kk i:Nat)(ns:List Int)(u:a7),l.length-i<kk→i≤l.length→u.length≤i→ns.length=cn u→
    ∃u' ns',Iz m l kk (i:Int) ns u=some (u',ns')∧ns'.length=cn u':=by
  intro kk
  induction kk with
  |zero=>intro i ns u h;omega
  |succ kk ih=>
    intro i ns u h hi hu hn;rw[Iz];by_cases h1:i<l.length
    · obtain⟨u',l',e1,e2,e3⟩:=ahZ (gi l (i:Int)).aT u ns (by omega) hn;rw[qw h1,bB,ej h1,e1,aN,bQ (by omega)];exact ih (i+1) l' u' (by omega) (by omega) (by omega) e3
    · rw[mB (by omega),bh];exact⟨_,_,rfl,hn⟩
theorem Z0(u:List Int)(i:Nat)(hi:i<u.length):∃x,vp (i:Int) u=some (dc x):=by
  unfold vp;rw[ej hi,lt_eq];exact⟨_,rfl⟩
theorem ai1(l:List aq)(hl:l.length≤1048576):∃c b,MJ FU l=some (c,b)∧Bo c:=by
  obtain⟨u,ns,h1,h2⟩:=ai0 FU l hl FU 0 [] [] (by unfold FU;omega) (fI _) (fI _) rfl;have fin:∀q:List Int,q.length=4→∃c b,(Option.bind (vp 0 q) λyc=>
      Option.bind (vp 1 q) λyd=>
      Option.bind (vp 2 q) λqR=>
      az (0≤(3:Int)∧(3:Int)<ln q)<|
      lt (if(gi q (3:Int))<1000 then(gi q (3:Int))else 1000) λqN=>
      lt (J (Int.tdiv (J ((if 0<qN then qN else 0)*255)) 1000)) λzw=>
      some (dd.mk yc yd qR (dc zw),true))=some (c,b)∧Bo c:=by
    intro q hq;obtain⟨a,ha⟩:=Z0 q 0 (by omega);obtain⟨b,hb⟩:=Z0 q 1 (by omega);obtain⟨c,hc⟩:=Z0 q 2 (by omega);rw[show vp 0 q=_ from ha,aN,show vp 1 q=_ from hb,aN,show vp 2 q=_ from hc,aN,cd ⟨by decide,by unfold ln;omega⟩,lt_eq,lt_eq];exact⟨_,_,rfl,DO _,DO _,DO _,DO _⟩
  have e0:∀w:a7,(u==w)=true→ns.length=cn w:=λw h=>by rw[←eq_of_beq h];exact h2
  unfold MJ;rw[show Iz FU l FU 0 [] []=_ from h1,aN];dsimp only;have three:(cond (u==[110,110,110]) (some (u==[110,110,110])) (some (u==[110,44,110,44,110])):Option Bool)=some (u==[110,110,110]||u==[110,44,110,44,110]):=by
    cases(u==[110,110,110])<;>rfl
  have four:(cond (u==[110,110,110,47,110]) (some (u==[110,110,110,47,110])) (lt (u==[110,44,110,44,110,44,110]) λsQ=>some sQ):Option Bool)=some (u==[110,110,110,47,110]||u==[110,44,110,44,110,44,110]):=by
    rw[lt_eq];cases(u==[110,110,110,47,110])<;>rfl
  rw[three,aN,four];cases h3:(u==[110,110,110]||u==[110,44,110,44,110])
  · rw[bh,aN];cases h4:(u==[110,110,110,47,110]||u==[110,44,110,44,110,44,110])
    · exact⟨_,_,rfl,JU⟩
    · rw[bB,aN];refine fin ns ?_;rcases Bool.or_eq_true _ _|>.mp h4 with h|h
      · exact e0 _ h
      · exact e0 _ h
  · have hl3:ns.length=3:=by
      rcases Bool.or_eq_true _ _|>.mp h3 with h|h
      · exact e0 _ h
      · exact e0 _ h
    rw[bB,cd (by unfold ln;simp only[fx,ia];omega),lt_eq,aN];exact fin (ns++[1000]) (by simp only[fg,fx,ia];omega)
theorem ai2(v:aq)(hv:zV v≤1048576):∃c b,ML FU v=some (c,b)∧Bo c:=by
  have ht:v.aT.di.length+6≤zV v:=by
    obtain⟨t,l⟩:=v;simp only[zV,zT,aq.aT];omega
  have hk:=qg v;have hl:=rL v.aa;unfold ML;cases(v.aT.af==1)
  · rw[bh];cases(v.aT.af==4)
    · rw[bh];cases(v.aT.af==2)
      · exact⟨_,_,rfl,JU⟩
      · obtain⟨y,hy⟩:=Sa v.aT.di (by omega);rw[bB,hy,aN,lt_eq];cases(cond (y==[114,103,98]) true (y==[114,103,98,97]))
        · exact⟨_,_,rfl,JU⟩
        · obtain⟨c,b,h1,h2⟩:=ai1 v.aa (by omega);rw[bB,h1];exact⟨c,b,rfl,h2⟩
    · obtain⟨c,b,h1,h2⟩:=ahY v.aT.di (by omega);rw[bB,h1];exact⟨c,b,rfl,h2⟩
  · obtain⟨c,e,h1,h2⟩:=ahR v.aT.di (by omega);rw[bB,h1];exact⟨c,_,rfl,h2⟩
theorem Gz{β:Type}(a b:List cu)(k:Option β)(ha:a.length≤10)(hb:b.length≤10):az (ln a+ln b≤137438953472) k=k:=cd (by unfold ln;omega)
theorem ai3(v:aq)(hv:zV v≤1048576):∃l,IB FU v=some l∧l.length≤4:=by
  have ht:v.aT.di.length≤1048576∧v.aT.Unit.length≤1048576:=by have:=ahO v;omega
  obtain⟨c,b,h1,hw⟩:=ai2 v hv;unfold IB;rw[h1,aN];dsimp only;have ai4:∃q:List cu,(cond b (az (ln ([]:List cu)+ln ([cu.mk 7 [] 0 c]:List cu)≤137438953472) (lt (([]:List cu)++([cu.mk 7 [] 0 c]:List cu)) λsr=>some sr)) (some ([]:List cu)):Option (List cu))=some q∧q.length≤1:=by
    cases b
    · exact⟨[],rfl,by decide⟩
    · rw[bB,Gz _ _ _ (by decide) (by simp),lt_eq];exact⟨_,rfl,by simp⟩
  obtain⟨q,hq,ql⟩:=ai4;rw[hq,aN];have zK:∀(z:List cu)(x:cu)(k:Nat),z.length≤k→(z++[x]).length≤k+1:=λz x k h=>by simp only[fg,fx,ia];omega
  cases(v.aT.af==1)
  · rw[bh];cases(v.aT.af==12)
    · rw[bh];cases(v.aT.af==10)
      · exact⟨q,rfl,by omega⟩
      · rw[bB];have h2:∃r:List cu,(cond v.aT.ma (az (ln q+ln ([cu.mk 6 [] (J (Int.tdiv v.aT.cN 1000)) (dd.mk 0 0 0 0)]:List cu)≤137438953472) (lt (q++([cu.mk 6 [] (J (Int.tdiv v.aT.cN 1000)) (dd.mk 0 0 0 0)]:List cu)) λMM=>some MM)) (some q):Option (List cu))=some r∧r.length≤2:=by
          cases v.aT.ma
          · exact⟨q,rfl,by omega⟩
          · rw[bB,Gz _ _ _ (by omega) (by simp),lt_eq];exact⟨_,rfl,zK _ _ 1 ql⟩
        obtain⟨r,hr,rl⟩:=h2;rw[hr,aN,Gz _ _ _ (by omega) (by simp),lt_eq];cases(v.aT.cN==0)
        · exact⟨_,rfl,Nat.le_trans (zK _ _ 2 rl) (by decide)⟩
        · rw[bB,Gz _ _ _ (Nat.le_trans (zK _ _ 2 rl) (by decide)) (by simp),lt_eq];exact⟨_,rfl,zK _ _ 3 (zK _ _ 2 rl)⟩
    · obtain⟨y,hy⟩:=Sa v.aT.Unit ht.2;rw[bB,hy,aN,lt_eq,lt_eq];cases(decide (0<gi ([2,3,4,0]:List Int) (s5 ([[112,120],[101,109],[114,101,109]]:List a7) y)))
      · exact⟨q,rfl,by omega⟩
      · rw[bB,Gz _ _ _ (by omega) (by simp),lt_eq];exact⟨_,rfl,Nat.le_trans (zK _ _ 1 ql) (by decide)⟩
  · obtain⟨y,hy⟩:=Sa v.aT.di ht.1;rw[bB,hy,aN,Gz _ _ _ (by omega) (by simp),lt_eq,lt_eq];cases(y==[99,117,114,114,101,110,116,99,111,108,111,114])
    · exact⟨_,rfl,Nat.le_trans (zK _ _ 1 ql) (by decide)⟩
    · rw[bB,Gz _ _ _ (Nat.le_trans (zK _ _ 1 ql) (by decide)) (by simp),lt_eq];exact⟨_,rfl,Nat.le_trans (zK _ _ 2 (zK _ _ 1 ql)) (by decide)⟩
theorem ai5(v:cu):∃e,IG v=some e:=by
  have fin:∀b:Bool,∃e:Int,(cond b (some 8) (some 0):Option Int)=some e:=λb=>by cases b<;>exact⟨_,rfl⟩
  unfold IG;cases(v.af==1)<;>cases(v.af==6)<;>cases(v.af==2)<;>cases(v.af==3)<;>cases(v.af==4)<;>cases(v.af==5)<;>cases(v.af==7)<;>cases(v.af==8)<;>simp only[bB,bh,aN,de,lt_eq]<;>first|exact fin _|exact⟨_,rfl⟩
theorem ai6:(iD.all λp=>decide (p.fE.length<60)&&decide (p.fq.length<60)&&!(p.fq.contains 1))=true:=by kernel_rfl
theorem ai7{dv:Int}(h:0≤dv∧dv<ln iD):gi iD dv∈iD:=by
  obtain⟨i,rfl⟩:∃i:Nat,dv=i:=⟨dv.toNat,by omega⟩;have hi:i<iD.length:=by unfold ln at h;omega
  rw[hZ _ _ hi];exact List.getElem_mem _
theorem ai8(l:List Int)(x:Int)(h:l.length<60):MO 64 l x=some (qf (λi=>x==gi l i) l.length 0).isSome:=by
  have h1:=YR (MN 64 l x) (λi=>x==gi l i) (λi=>Sum.inl i) (Sum.inr ()) (ln l) l.length rfl (by omega)
    (λkk i hi=>by rw[MN];exact YQ hi) l.length 0 64 rfl (by omega) (by omega)
  unfold MO QR;rw[show(0:Int)=((0:Nat):Int)from rfl,h1];cases hf:qf (λi=>x==gi l i) l.length 0 with
  |none=>rfl
  |some r=>
    have h0:=NR _ _ _ _ hf;have h2:decide (((0:Nat):Int)≤r)=true:=kq (by omega);show some (decide (((0:Nat):Int)≤r))=_;rw[h2];rfl
def ai9(p:fo)(w:a7):Bool:=(qf (λi=>w==gi p.fE i) p.fE.length 0).isSome
def aia(p:fo)(v:cu):Bool:=cond (qf (λi=>v.af==gi p.fq i) p.fq.length 0).isSome (cond (!p.Qv) true (decide (0≤v.cN))) false
def a5e(dv:Int)(v:cu)(e:Int):Bool×Int:=cond (cond (decide (dv<0)) true (decide (18≤dv))) (false,2)
  (cond (e !=0) (false,0) (cond (v.af==1) (ai9 (gi iD dv) v.AL,0) (aia (gi iD dv) v,0)))
theorem rng{dv:Int}(h:cond (decide (dv<0)) true (decide (18≤dv))=false):0≤dv∧dv<ln iD:=by
  rw[YT];by_cases h1:dv<0
  · rw[kq h1]at h;cases h
  · rw[eK h1]at h;have:¬(18≤dv):=of_decide_eq_false h;omega
theorem lens{dv:Int}(h:0≤dv∧dv<ln iD):(gi iD dv).fE.length<60∧(gi iD dv).fq.length<60∧(gi iD dv).fq.contains 1=false:=by
  have:=List.all_eq_true.1 ai6 _ (ai7 h);simp only[Bool.and_eq_true,decide_eq_true_eq,Bool.not_eq_true']at this;exact⟨this.1.1,this.1.2,this.2⟩
theorem aib(dv:Int)(v:cu)(e:Int)(he:IG v=some e):IH 64 dv v=some (a5e dv v e):=by
  unfold IH a5e;simp only[lt_eq];cases hr:cond (decide (dv<0)) true (decide (18≤dv))
  · have h0:=rng hr;obtain⟨l1,l2,_⟩:=lens h0;simp only[bh];rw[YS];simp only[aN];rw[cd h0,he];simp only[aN];cases(e !=0)
    · simp only[bh];rw[NS _ _ l1,ai8 _ _ l2];simp only[aN];cases(v.af==1)<;>rfl
    · rfl
  · rfl

theorem aic(dv:Int)(v:cu):∃q,IH 64 dv v=some q:=by
  obtain⟨e,he⟩:=ai5 v;exact⟨_,aib dv v e he⟩
theorem aid(dv:Int)(l:List cu)(hl:l.length≤4):∀(kk i:Nat),l.length-i<kk→i≤l.length→∃z,II FU dv l kk (i:Int)=some z:=by
  intro kk
  induction kk with
  |zero=>intro i h;omega
  |succ kk ih=>
    intro i h hi;rw[II];by_cases h1:i<l.length
    · obtain⟨⟨is,e⟩,hx⟩:=aic dv (gi l (i:Int));rw[qw h1,bB,ej h1,hx,aN];dsimp only;cases is
      · rw[bh,bQ (by omega)];exact ih (i+1) (by omega) (by omega)
      · exact⟨_,rfl⟩
    · rw[mB (by omega),bh];exact⟨_,rfl⟩
theorem aie(dv:Int)(l:List aq)(hl:cG l≤1048576):∃r,MP FU dv l=some r:=by
  unfold MP;rw[lt_eq];cases(cond (decide (dv<0)) true (decide (18≤dv)))
  · rw[bh];by_cases h1:ln l=1
    · have hlen:0<l.length:=by unfold ln at h1;omega
      have hm:=rM (l:=l) (i:=0) hlen;have hz:=rK hm;obtain⟨q,hq,ql⟩:=ai3 (gi l ((0:Nat):Int)) (by omega);rw[h1,bne_self_eq_false,bh,cd ⟨by decide,by decide⟩,show IB FU (gi l (0:Int))=some q from hq,aN];obtain⟨z,h⟩:=aid dv q ql FU 0 (by unfold FU;omega) (fI _);rw[show II FU dv q FU 0=_ from h];cases z<;>exact⟨_,rfl⟩
    · rw[show(ln l !=1)=true from bne_iff_ne.2 h1];exact⟨_,rfl⟩
  · exact⟨_,rfl⟩
def JV(name:a7)(l:List aq):Bool:=(CP FU name l).getD false
theorem a5f(name:a7)(l:List aq)(hl:cG l≤1048576):CP FU name l=some (JV name l):=by
  have h:∃b,CP FU name l=some b:=by
    unfold CP;rw[a55,aN];cases((vD name).2 !=0)
    · obtain⟨r,h1⟩:=aie (vD name).1 l hl;rw[bh,h1];exact⟨_,rfl⟩
    · exact⟨_,rfl⟩
  obtain⟨b,h1⟩:=h;unfold JV;rw[h1];rfl
theorem a5g(v:aq):v.aT.di.length+v.aT.Unit.length+cG v.aa+8≤zV v:=by
  obtain⟨t,l⟩:=v;simp only[zV,zT,aq.aT,aq.aa];omega
def iQ(w:a7):List a7:=cond (w==kH) S9 (cond (zJ w) [w++[45,99,111,108,111,114]] [])
theorem a5h(w:a7)(hw:w.length≤1048576):CC 64 w=some (iQ w):=by
  unfold CC iQ;rw[lt_eq,NS AK w (by decide),aN];rw[show(qf (λi=>w==gi AK i) AK.length 0).isSome=cond (w==kH) true (zJ w)from YY _ _ _ _ w];cases hm:(w==kH)
  · rw[bh,bh,lt_eq];cases hs:zJ w
    · rfl
    · rw[wk,bh,show(!(w==([109,97,114,103,105,110]:a7)))=true from by rw[show(w==([109,97,114,103,105,110]:a7))=false from hm];rfl,bB,cd (by unfold ln;simp only[fx,ia];omega)];rfl
  · have e:w=kH:=eq_of_beq hm;subst e;rw[show Mg 64 kH 64 [] 0=some S9 from by kernel_rfl];rfl
def oU(l:List aq)(i:Nat):Bool:=(gi l (i:Int)).aT.af==13
def gl(l:List aq):Nat→Nat→List (List aq)→Option (List (List aq))
  |0,_,v=>some v
  |k+1,i,v=>cond (oU l i) (gl l k (i+1) v) (cond (cond (decide (0<i)) (!(oU l (i-1))) false) none (gl l k (i+1) (v++[[gi l (i:Int)]])))
theorem uk{l:List aq}{i:Nat}(h:i<l.length):gf l (i:Int) ((i+1:Nat):Int)=[gi l (i:Int)]:=by
  rw[hZ l i h];unfold gf;simp only[Int.toNat_natCast];rw[ov h,show i+1-i=1 from by omega];rfl
theorem aif(l:List aq)(hl:l.length≤1048576):∀(kk i k:Nat)(v:List (List aq)),i+k=l.length→k<kk→v.length≤i→
    IJ FU l kk v (i:Int)=match gl l k i v with
      |none=>some (.inl [])
      |some q=>some (.inr q):=by
  intro kk
  induction kk with
  |zero=>intro i k v _ h;omega
  |succ kk ih=>
    intro i k v OU hk hv;rw[IJ];cases k with
    |zero=>rw[mB (by omega),bh];rfl
    |succ k=>
      have h1:i<l.length:=by omega
      rw[qw h1,bB,ej h1,gl];show Option.bind (cond (oU l i) _ _) _=_;cases hs:oU l i
      · rw[bh,bh];have aih:(cond (decide (0<(i:Int))) ((gi l (J ((i:Int)-1))).aT.af !=13) false)=cond (decide (0<i)) (!(oU l (i-1))) false:=by
          by_cases h0:0<i
          · rw[kq h0,kq (show(0:Int)<(i:Int) by omega),bB,bB,show J ((i:Int)-1)=((i-1:Nat):Int)from by rw[na (by omega) (by omega)];omega];rfl
          · rw[eK h0,eK (show¬(0:Int)<(i:Int) by omega)];rfl
        rw[cd (λh=>by
          have h0:(0:Int)<(i:Int):=by simpa using h
          rw[show J ((i:Int)-1)=((i-1:Nat):Int)from by rw[na (by omega) (by omega)];omega];exact⟨by omega,by unfold ln;omega⟩),lt_eq,aih]
        cases(cond (decide (0<i)) (!(oU l (i-1))) false)
        · rw[bh,bh,bQ (by omega),cd ⟨by omega,by omega,by unfold ln;omega⟩,lt_eq,uk h1,cd (by unfold ln;simp only[fx,ia];omega),lt_eq,aN];dsimp only[de];exact ih (i+1) k _ (by omega) (by omega) (by simp only[fg,fx,ia];omega)
        · rfl
      · rw[bB,bB,aN];dsimp only[de];rw[bQ (by omega)];exact ih (i+1) k v (by omega) (by omega) (by omega)
abbrev LV:=List (List aq)
def GA:LV→LV
  |[a]=>[a,a,a,a]
  |[a,b]=>[a,b,a,b]
  |[a,b,c]=>[a,b,c,b]
  |v=>v
def pt(l:List aq):LV:=cond (decide (l.length=0)) [] (cond (cond (oU l 0) true (oU l (l.length-1))) [] (match gl l l.length 0 []with
  |none=>[]
  |some v=>cond (decide (4<v.length)) [] (GA v)))
theorem Z1(l:List aq):∀(k i:Nat)(v q:LV),gl l k i v=some q→v.length≤q.length
  |0,i,v,q,h=>by cases h;exact du _
  |k+1,i,v,q,h=>by
    rw[gl]at h;cases hs:oU l i
    · rw[hs,bh]at h;cases hq:(cond (decide (0<i)) (!(oU l (i-1))) false)
      · rw[hq,bh]at h;have:=Z1 l k (i+1) _ q h;simp only[fg,fx,ia]at this;omega
      · rw[hq]at h;cases h
    · rw[hs,bB]at h;exact Z1 l k (i+1) v q h
theorem aii(l:List aq)(hf:oU l 0=false)(hl:0<l.length)(q:LV)(h:gl l l.length 0 []=some q):0<q.length:=by
  obtain⟨k,hk⟩:∃k,l.length=k+1:=⟨l.length-1,by omega⟩;rw[hk,gl,hf,bh,eK (by omega),bh,bh]at h;have:=Z1 l k 1 _ q h;simp only[List.nil_append,fx,ia]at this;omega
def fp(v:LV):Option LV:=Option.bind (az (0≤J (ln v-1)∧J (ln v-1)≤ln ([0,0,1]:List Int)∧ln ([0,0,1]:List Int)≤ln ([0,0,1]:List Int))<|
  lt (gf ([0,0,1]:List Int) (J (ln v-1)) (ln ([0,0,1]:List Int))) λmT=>
  QT FU mT FU v 0) λ(FL:LV)=>some FL
theorem fp1(a:List aq):fp [a]=some [a,a,a,a]:=by kernel_rfl
theorem fp2(a b:List aq):fp [a,b]=some [a,b,a,b]:=by kernel_rfl
theorem fp3(a b c:List aq):fp [a,b,c]=some [a,b,c,b]:=by kernel_rfl
theorem fp4(a b c d:List aq):fp [a,b,c,d]=some [a,b,c,d]:=by kernel_rfl
theorem fill(v:LV)(hp:0<v.length)(h4:¬4<v.length):fp v=some (GA v):=by
  match v,hp,h4 with
  |[a],_,_=>exact fp1 a
  |[a,b],_,_=>exact fp2 a b
  |[a,b,c],_,_=>exact fp3 a b c
  |[a,b,c,d],_,_=>exact fp4 a b c d
  |a::b::c::d::e::r,_,h=>exact absurd h (by simp only[fx];omega)
theorem aij(l:List aq)(hl:l.length≤1048576):IK FU l=some (pt l):=by
  unfold IK pt;by_cases h0:l.length=0
  · have:l=[]:=a8c h0;subst this;rfl
  · have n0:(ln l==0)=false:=yO.2 (by unfold ln;omega);have wl:J (ln l-1)=((l.length-1:Nat):Int):=by unfold ln;rw[na (by omega) (by omega)];omega
    rw[n0,eK h0,bh,bh,cd (λ_=>⟨by decide,by unfold ln;omega⟩),lt_eq,wl,cd (λ_=>⟨by omega,by unfold ln;omega⟩),lt_eq];show cond (cond (oU l 0) true (oU l (l.length-1))) _ _=_;cases hb:(cond (oU l 0) true (oU l (l.length-1)))
    · rw[bh,bh,show IJ FU l FU [] 0=_ from aif l hl FU 0 l.length [] (by omega) (by unfold FU;omega) (fI _)];have hf:oU l 0=false:=by
        cases h:oU l 0
        · rfl
        · rw[h]at hb;cases hb
      cases hg:gl l l.length 0 []with
      |none=>rfl
      |some v=>
        have hp:=aii l hf (by omega) v hg;rw[aN];dsimp only[de];by_cases h4:4<v.length
        · rw[kq (show 4<ln v by unfold ln;omega),kq h4];rfl
        · rw[eK (show¬4<ln v by unfold ln;omega),eK h4,bh,bh];exact fill v hp h4
    · rfl
def GB(y:List a7)(z:LV)(i:Nat):Nat→Bool
  |0=>true
  |k+1=>JV (gi y (i:Int)) (gi z (i:Int))&&GB y z (i+1) k
theorem aik(y:List a7)(z:LV)(hyz:z.length=y.length)(hy:y.length≤10)(hz:∀x∈z,cG x≤1048576):∀(kk i k:Nat),i+k=y.length→k<kk→
    IP FU z y kk (i:Int)=cond (GB y z i k) (some (.inr ())) (some (.inl [])):=by
  intro kk
  induction kk with
  |zero=>intro i k _ h;omega
  |succ kk ih=>
    intro i k OU hk;rw[IP];cases k with
    |zero=>rw[mB (by omega),bh];rfl
    |succ k=>
      have h1:i<y.length:=by omega
      have h2:i<z.length:=by omega
      rw[qw h1,bB,ej h1,ej h2,a5f _ _ (hz _ (rM h2)),aN,GB];cases JV (gi y (i:Int)) (gi z (i:Int))
      · rfl
      · rw[wk,bh,bQ (by omega),a8d];exact ih (i+1) k (by omega) (by omega)
theorem Z2(l:List aq)(zM:cG l≤1048576):∀(k i:Nat)(v q:LV),i+k=l.length→(∀x∈v,cG x≤1048576)→gl l k i v=some q→∀x∈q,cG x≤1048576
  |0,i,v,q,_,hv,h=>by cases h;exact hv
  |k+1,i,v,q,OU,hv,h=>by
    rw[gl]at h;cases hs:oU l i
    · rw[hs,bh]at h;cases hq:(cond (decide (0<i)) (!(oU l (i-1))) false)
      · rw[hq,bh]at h;refine Z2 l zM k (i+1) _ q (by omega) (λx hx=>?_) h;rcases List.mem_append.1 hx with h'|h'
        · exact hv x h'
        · rw[List.mem_singleton.1 h'];have hm:=rK (rM (show i<l.length by omega));simp only[cG];omega
      · rw[hq]at h;cases h
    · rw[hs,bB]at h;exact Z2 l zM k (i+1) v q (by omega) hv h
theorem ail{P:List aq→Prop}(v:LV)(h:∀x∈v,P x):∀x∈GA v,P x:=by
  match v,h with
  |[],h=>exact h
  |[a],h=>intro x hx;have:=h a (by simp);simp[GA]at hx;rw[hx];exact this
  |[a,b],h=>intro x hx;have h1:=h a (by simp);have h2:=h b (by simp);simp[GA]at hx;rcases hx with hx|hx|hx|hx<;>rw[hx]<;>assumption
  |[a,b,c],h=>intro x hx;have h1:=h a (by simp);have h2:=h b (by simp);have h3:=h c (by simp);simp[GA]at hx;rcases hx with hx|hx|hx|hx<;>rw[hx]<;>assumption
  |a::b::c::d::r,h=>exact h
theorem a5i(l:List aq)(zM:cG l≤1048576):∀x∈pt l,cG x≤1048576:=by
  unfold pt;cases decide (l.length=0)
  · cases(cond (oU l 0) true (oU l (l.length-1)))
    · rw[bh,bh];cases hg:gl l l.length 0 []with
      |none=>intro x hx;cases hx
      |some v=>
        have:=Z2 l zM l.length 0 [] v (by omega) (λx hx=>by cases hx) hg;show∀x∈cond (decide (4<v.length)) [] (GA v),cG x≤1048576;cases decide (4<v.length)
        · exact ail v this
        · intro x hx;cases hx
    · intro x hx;cases hx
  · intro x hx;cases hx
def DQ(w:a7)(l:List aq):LV:=cond (ln (cond (w==kH) (pt l) [l]) !=ln (iQ w)) [] (cond (GB (iQ w) (cond (w==kH) (pt l) [l]) 0 (iQ w).length) (cond (w==kH) (pt l) [l]) [])
theorem aim(w:a7):(iQ w).length≤4:=by
  unfold iQ;cases(w==kH)<;>cases zJ w<;>exact Nat.le_of_ble_eq_true rfl
theorem ain(w:a7)(l:List aq)(hw:w.length≤1048576)(zM:cG l≤1048576):IQ FU w l=some (DQ w l):=by
  have hl:=rL l;have hll:=aim w;have e1:(cond (w==[109,97,114,103,105,110]) (Option.bind (IK FU l) λaW=>some aW) (some ([l]:LV)):Option LV)=some (cond (w==kH) (pt l) [l]):=by
    rw[aij l (by omega)];show cond (w==kH) _ _=_;cases(w==kH)<;>rfl
  have hm:∀x∈cond (w==kH) (pt l) [l],cG x≤1048576:=by
    cases(w==kH)
    · intro x hx;rw[List.mem_singleton.1 hx];exact zM
    · exact a5i l zM
  unfold IQ DQ;rw[e1,aN,a5h w hw,aN];generalize cond (w==kH) (pt l) [l]=z at*;cases hn:(ln z !=ln (iQ w))
  · have hlen:z.length=(iQ w).length:=by
      have:=bne_eq_false_iff_eq.1 hn;unfold ln at this;omega
    rw[bh,bh,show IP FU z (iQ w) FU 0=_ from aik (iQ w) z hlen (by omega) hm FU 0 (iQ w).length (by omega) (by unfold FU;omega)];cases GB (iQ w) z 0 (iQ w).length<;>rfl
  · rfl
theorem aio(w:a7)(l:List aq):(ln (DQ w l)==0)=true∨(DQ w l).length=(iQ w).length:=by
  unfold DQ;cases hn:(ln (cond (w==kH) (pt l) [l]) !=ln (iQ w))
  · rw[bh];cases GB (iQ w) (cond (w==kH) (pt l) [l]) 0 (iQ w).length
    · exact Or.inl rfl
    · right;have:=bne_eq_false_iff_eq.1 hn;unfold ln at this;rw[bB];omega
  · exact Or.inl rfl
theorem aip(w:a7)(l:List aq)(zM:cG l≤1048576):∀x∈DQ w l,cG x≤1048576:=by
  have hm:∀x∈cond (w==kH) (pt l) [l],cG x≤1048576:=by
    cases(w==kH)
    · intro x hx;rw[List.mem_singleton.1 hx];exact zM
    · exact a5i l zM
  unfold DQ;cases(ln (cond (w==kH) (pt l) [l]) !=ln (iQ w))
  · rw[bh];cases GB (iQ w) (cond (w==kH) (pt l) [l]) 0 (iQ w).length
    · intro x hx;cases hx
    · exact hm
  · intro x hx;cases hx
theorem aiq(x:aq):x.aT.di.length≤zV x:=by
 obtain⟨t,l⟩:=x;simp only[zV,zT,aq.aT];omega
def words:List a7:=[[105,110,105,116,105,97,108],[105,110,104,101,114,105,116],[117,110,115,101,116],[114,101,118,101,114,116]]
def Sd:a7:=[114,101,118,101,114,116]
def Se:a7:=[117,110,115,101,116]
theorem air(m:Nat)(s:a7)(hs:s.length≤1048576):∀(kk i:Nat)(b:List Int),s.length-i<kk→i≤s.length→∃r,Mx m s kk (i:Int) b=some r:=by
 intro kk
 induction kk with
 |zero=>intro i b h;omega
 |succ kk ih=>
  intro i b h hi;have hl:(bO s).length=s.length:=by simp[bO]
  rw[Mx];by_cases h1:i<s.length
  ·rw[qw (by rw[hl];exact h1),bB,ej (by rw[hl];exact h1),lt_eq,bQ (by omega)];cases(cond (decide (65≤gi b (i:Int))) (decide (gi b (i:Int)≤90)) false)
   ·exact ih (i+1) _ (by omega) (by omega)
   ·exact ih (i+1) _ (by omega) (by omega)
  ·rw[mB (by rw[hl];omega),bh];exact⟨_,rfl⟩
theorem a5j(s:a7)(hs:s.length≤1048576):∃r,CH FU s=some r:=by
 obtain⟨r,h⟩:=air FU s hs FU 0 (bO s) (by unfold FU;omega) (fI _);exact⟨iL r,by unfold CH;rw[show(0:Int)=((0:Nat):Int)from rfl,h];rfl⟩
def wid(v:List aq):a7:=(Fz FU v).getD []
theorem ais(x:a7):zh 64 words x=some (cond (x==[105,110,105,116,105,97,108]) true (cond (x==[105,110,104,101,114,105,116]) true (cond (x==Se) true (x==Sd)))):=by
 rw[NS words x (by decide)];congr 1;exact YY _ _ _ _ x
theorem ait(v:List aq)(hv:cG v≤1048576):Fz FU v=some (wid v)∧(wid v=[]∨wid v=[105,110,105,116,105,97,108]∨wid v=[105,110,104,101,114,105,116]∨wid v=Se∨wid v=Sd):=by
 have key:∃w,Fz FU v=some w∧(w=[]∨w=[105,110,105,116,105,97,108]∨w=[105,110,104,101,114,105,116]∨w=Se∨w=Sd):=by
  unfold Fz;by_cases h1:ln v=1
  ·have h0:0≤(0:Int)∧(0:Int)<ln v:=by omega
   rw[cd (λ_=>h0),lt_eq];cases hx:(cond (ln v==1) ((gi v (0:Int)).aT.af==1) false)
   ·exact⟨[],rfl,Or.inl rfl⟩
   ·rw[bB,cd h0];have hm:gi v (0:Int)∈v:=rM (i:=0) (by unfold ln at h1;omega);have h2:=rK hm;have h3:(gi v (0:Int)).aT.di.length≤1048576:=by have:=aiq (gi v (0:Int));omega
    obtain⟨r,hr⟩:=a5j _ h3;rw[hr,aN];show∃w,Option.bind (Option.bind (zh 64 words r) _) _=_∧_;rw[ais,aN];cases b1:(r==([105,110,105,116,105,97,108]:a7))
    ·cases b2:(r==([105,110,104,101,114,105,116]:a7))
     ·cases b3:(r==Se)
      ·cases b4:(r==Sd)
       ·exact⟨[],rfl,Or.inl rfl⟩
       ·exact⟨r,rfl,Or.inr (Or.inr (Or.inr (Or.inr (eq_of_beq b4))))⟩
      ·exact⟨r,rfl,Or.inr (Or.inr (Or.inr (Or.inl (eq_of_beq b3))))⟩
     ·exact⟨r,rfl,Or.inr (Or.inr (Or.inl (eq_of_beq b2)))⟩
    ·exact⟨r,rfl,Or.inr (Or.inl (eq_of_beq b1))⟩
  ·have hb:(ln v==1)=false:=by simpa using h1
   rw[hb,cd (λh=>by cases h),lt_eq];exact⟨[],rfl,Or.inl rfl⟩
 obtain⟨w,h1,h2⟩:=key;have e:wid v=w:=by unfold wid;rw[h1];rfl
 rw[e];exact⟨h1,h2⟩
def NV(s:a7):a7:=(CH FU s).getD []
theorem aiu(s:a7)(hs:s.length≤1048576):CH FU s=some (NV s):=by
 obtain⟨r,h⟩:=a5j s hs;unfold NV;rw[h];rfl
mutual
def vV:aq→Bool
 | .mk t l=>cond (t.af==2) (NV t.di==[118,97,114]) false||qh l
def qh:List aq→Bool
 |[]=>false
 |x::r=>vV x||qh r
end
theorem aiv(x:aq):vV x=(cond (x.aT.af==2) (NV x.aT.di==[118,97,114]) false||qh x.aa):=by obtain⟨t,l⟩:=x;rw[vV];rfl
theorem aiw(rec:List aq→Option Bool)(x:aq)(hx:zV x≤1048576)(hr:rec x.aa=some (qh x.aa)):My FU rec x=some (vV x):=by
 have hz:=a5g x;unfold My;rw[aiv];cases(x.aT.af==2)
 ·rw[bh,bh,aN,lt_eq,hr];rfl
 ·rw[bB,bB,aiu _ (by omega),aN,lt_eq];cases(NV x.aT.di==[118,97,114])
  ·rw[hr];rfl
  ·rfl
theorem aix(rec:List aq→Option Bool)(v:List aq)(hb:cG v≤1048576)(hr:∀x∈v,rec x.aa=some (qh x.aa)):∀(kk i:Nat),v.length-i<kk→i≤v.length→
  (qh (v.drop i)=true∧∃j:Nat,CI FU rec v kk (i:Int)=some (.inl (j:Int)))∨(qh (v.drop i)=false∧CI FU rec v kk (i:Int)=some (.inr ())):=by
 have hl:=rL v;intro kk
 induction kk with
 |zero=>intro i h;omega
 |succ kk ih=>
  intro i h hi;rw[CI];by_cases h1:i<v.length
  ·have hm:=rM h1;have hz:=rK hm;rw[qw h1,bB,ej h1,aiw rec _ (by omega) (hr _ hm),aN,ov h1,qh,←hZ v i h1];cases hh:vV (gi v (i:Int))
   ·rw[bh,KG,bQ (by omega)];exact ih (i+1) (by omega) (by omega)
   ·left;exact⟨rfl,i,rfl⟩
  ·right;rw[mB (by omega),bh,yP (by omega),qh];exact⟨rfl,rfl⟩
theorem aiy:∀(k:Nat)(v:List aq),cG v<k→cG v≤1048576→AN FU k v=some (qh v):=by
 intro k
 induction k with
 |zero=>intro v h;omega
 |succ k ih=>
  intro v h hb;have hl:=rL v;rw[AN];unfold QL QK;rcases aix (AN FU k) v hb (λx hx=>by
   have h1:=rK hx;have h2:=qg x;exact ih _ (by omega) (by omega)) FU 0 (by unfold FU;omega) (fI _)with⟨e,j,h1⟩|⟨e,h1⟩
  ·rw[pa]at e;rw[show CI FU (AN FU k) v FU 0=_ from h1,e,aN];dsimp only[de];rw[aN,aN,kq (by omega)]
  ·rw[pa]at e;rw[show CI FU (AN FU k) v FU 0=_ from h1,e];rfl
theorem aiz(v:List aq)(hb:cG v≤1048576):WM FU v=some (qh v):=aiy FU v (by unfold FU;omega) hb
theorem aiA(v:List aq):CQ FU [v] 1=some [v]:=by kernel_rfl
theorem aiB(v:List aq):CQ FU [v] 4=some [v,v,v,v]:=by kernel_rfl
def gW(w:a7):Bool:=decide (0<ln (iQ w))
def sF(d:cR):Bool:=cond (Bn d.bm) true (cond (!(wid d.Value==[])) true (cond (qh d.Value) true (cond (gW d.bm) false (JV d.bm d.Value))))
def xi(d:cR):LV:=cond (sF d) (List.replicate (mv d.bm).1.length d.Value) (cond (gW d.bm) (DQ d.bm d.Value) [])
def whl(d:cR):a7:=cond (cond (gW d.bm) (qh d.Value) false) d.bm []
def aiC(d:cR):List o5:=List.zipWith (λn v=>o5.mk n v (whl d)) (mv d.bm).1 (xi d)
def Z3(d:cR):List o5×Int:=cond (Gy d.Value !=0) ([],Gy d.Value) (cond ((mv d.bm).2 !=0) ([],(mv d.bm).2) (cond (ln (xi d)==0) ([],12) (aiC d,0)))
theorem a5k(w:a7):(gW w=true∧mv w=(iQ w,0))∨(gW w=false∧iQ w=[]∧((mv w).2=0→(mv w).1=[w])):=by
  unfold gW mv iQ;cases(w==kH)
  · cases zJ w
    · right;refine⟨rfl,rfl,λh=>?_⟩;simp only[bh]at h⊢;cases hh:((DN w).2 !=0)
      · rfl
      · rw[hh]at h;cases h
    · exact Or.inl ⟨rfl,rfl⟩
  · exact Or.inl ⟨rfl,rfl⟩
theorem aiD(w:a7)(h:gW w=true):(iQ w).length=1∨(iQ w).length=4:=by
  unfold gW iQ at h;unfold iQ;cases hm:(w==kH)
  · rw[hm]at h;cases hs:zJ w
    · rw[hs]at h;cases h
    · exact Or.inl rfl
  · exact Or.inr rfl
theorem a5l(w:a7)(h:(mv w).2=0):(mv w).1.length=1∨(mv w).1.length=4:=by
  rcases a5k w with⟨h1,h2⟩|⟨h1,h2,h3⟩
  · rw[h2];exact aiD w h1
  · rw[h3 h];exact Or.inl rfl
theorem aiE(v:List aq)(n:Nat)(h:n=1∨n=4):CQ FU [v] ((n:Nat):Int)=some (List.replicate n v):=by
  rcases h with rfl|rfl
  · exact aiA v
  · exact aiB v
theorem aiF(d:cR)(hv:cG d.Value≤1048576):∀x∈xi d,cG x≤1048576:=by
  unfold xi;cases sF d
  · cases gW d.bm
    · intro x hx;cases hx
    · exact aip d.bm d.Value hv
  · intro x hx;rw[List.eq_of_mem_replicate hx];exact hv
theorem aiG(d:cR)(h:(mv d.bm).2=0):(ln (xi d)==0)=true∨(xi d).length=(mv d.bm).1.length:=by
  unfold xi;cases sF d
  · rcases a5k d.bm with⟨h1,h2⟩|⟨h1,h2,h3⟩
    · rw[h1,h2];exact aio d.bm d.Value
    · rw[h1];exact Or.inl rfl
  · right;rw[bB,List.length_replicate]
theorem aiH(d:cR)(y:List a7)(jv:List a7)(b:Bool)(z:LV)(wh:a7)(hw:cond (cond (decide (0<ln jv)) b false) d.bm []=wh)(hyz:z.length=y.length)(hy:y.length≤10)(hz:∀x∈z,cG x≤1048576):∀(kk i:Nat)(v:List o5),y.length-i<kk→i≤y.length→v.length≤i→
    IR FU d (y,0) jv b z kk v (i:Int)=some (v++List.zipWith (λn x=>o5.mk n x wh) (y.drop i) (z.drop i)):=by
  have hcw:(cond (cond (decide (0<ln jv)) b false) (some d.bm) (some []):Option a7)=some wh:=by
    rw[←hw];cases(cond (decide (0<ln jv)) b false)<;>rfl
  intro kk
  induction kk with
  |zero=>intro i v h;omega
  |succ kk ih=>
    intro i v h hi hv;rw[IR];by_cases h1:i<y.length
    · have h2:i<z.length:=by omega
      rw[qw h1,bB,ej h1,ej h2,show Xo FU (gi z (i:Int))=some (gi z (i:Int))from ahI FU YX FU _ (by have:=hz _ (rM h2);unfold FU;omega) (hz _ (rM h2)),aN,hcw,aN,cd (by unfold ln;simp only[fx,ia];omega),lt_eq,bQ (by omega),ih (i+1) _ (by omega) (by omega) (by simp only[fg,fx,ia];omega),ov h1,ov h2,List.zipWith_cons_cons,hZ z i h2,tA];rw[show gi (y,(0:Int)).1 (i:Int)=y[i]from hZ y i h1];rfl
    · rw[show decide ((i:Int)<ln (y,(0:Int)).1)=false from mB (show y.length≤i by omega),bh,yP (show y.length≤i by omega)];simp
theorem aiI(d:cR)(hn:d.bm.length≤1048576)(hv:cG d.Value≤1048576):MZ FU d=some (Z3 d):=by
  unfold MZ Z3;rw[S8 FU YX d.Value hv,aN];cases(Gy d.Value !=0)
  rotate_left
  · rfl
  rw[bh,bh,ahK d.bm hn,aN];by_cases he:(mv d.bm).2=0
  rotate_left
  · rw[show((mv d.bm).2 !=0)=true from bne_iff_ne.2 he];rfl
  rw[he,show((0:Int) !=0)=false from rfl,bh,bh,a5h d.bm hn,aN,aiz d.Value hv,aN,a56 d.bm,aN,(ait d.Value hv).1,aN,a5f d.bm d.Value hv];have hz:(cond (Bn d.bm) (some (Bn d.bm)) (cond (!(wid d.Value==[])) (some (!(wid d.Value==[]))) (cond (qh d.Value) (some (qh d.Value)) (Option.bind (cond (!(decide (0<ln (iQ d.bm)))) (some (JV d.bm d.Value)) (some default)) λvl=>lt (cond (!(decide (0<ln (iQ d.bm)))) vl false) λqK=>some qK))):Option Bool)=some (sF d):=by
    unfold sF gW;cases Bn d.bm<;>cases(!(wid d.Value==[]))<;>cases qh d.Value<;>cases decide (0<ln (iQ d.bm))<;>rfl
  rw[hz,aN];have ha:(cond (sF d) (Option.bind (CQ FU ([d.Value]:LV) (ln (mv d.bm).1)) λjN=>some jN) (cond (decide (0<ln (iQ d.bm))) (Option.bind (IQ FU d.bm d.Value) λfA=>some fA) (some ([]:LV))):Option LV)=some (xi d):=by
    unfold xi;rw[ain d.bm d.Value hn hv,show CQ FU ([d.Value]:LV) (ln (mv d.bm).1)=_ from aiE d.Value _ (a5l d.bm he)];unfold gW;cases sF d<;>cases decide (0<ln (iQ d.bm))<;>rfl
  rw[ha,aN];rcases aiG d he with h0|h0
  · rw[h0];rfl
  · have p7:(ln (xi d)==0)=false:=by
      have:=a5l d.bm he;exact yO.2 (by unfold ln;omega)
    have hl:=ahL d.bm;have e:=aiH d (mv d.bm).1 (iQ d.bm) (qh d.Value) (xi d) (whl d) rfl h0 (by omega) (aiF d hv) FU 0 [] (by unfold FU;omega) (fI _) (fI _);rw[p7,bh,bh,show mv d.bm=((mv d.bm).1,0)from by rw[←he],show IR FU d ((mv d.bm).1,0) (iQ d.bm) (qh d.Value) (xi d) FU [] 0=_ from e];rfl
def knw(d:cR):Bool:=(Z3 d).2==0
theorem aiJ(d:cR)(hn:d.bm.length≤1048576)(hv:cG d.Value≤1048576):N2 FU d=some (knw d):=by
 unfold N2;rw[aiI d hn hv];rfl
def zL{α:Type}(z:α→Nat):List α→Nat
 |[]=>0
 |v::r=>z v+zL z r
theorem Bp{α:Type}{z:α→Nat}{x:α}:∀{l:List α},x∈l→z x≤zL z l
 |y::l,h=>by
  rw[zL];rcases List.mem_cons.1 h with rfl|h
  ·omega
  ·have:=Bp (z:=z) h;omega
theorem Bq{α:Type}{z:α→Nat}(hz:∀x,1≤z x):∀l:List α,l.length≤zL z l
 |[]=>fI _
 |y::l=>by have:=Bq hz l;have:=hz y;rw[zL,fx];omega
theorem Z4:∀l,mu l=zL zX l
 |[]=>by rw[mu,zL]
 |v::r=>by rw[mu,zL,Z4 r]
theorem Z5:∀l,xh l=zL zP l
 |[]=>by rw[xh,zL]
 |v::r=>by rw[xh,zL,Z5 r]
theorem Z6:∀l,vC l=zL zS l
 |[]=>by rw[vC,zL]
 |v::r=>by rw[vC,zL,Z6 r]
theorem Sf:∀l,ue l=zL zC l
 |[]=>by rw[ue,zL]
 |v::r=>by rw[ue,zL,Sf r]
theorem Z7:∀l,dZ l=zL zR l
 |[]=>by rw[dZ,zL]
 |v::r=>by rw[dZ,zL,Z7 r]
theorem Z8:∀l,rI l=zL zD l
 |[]=>rfl
 |v::r=>by rw[rI,zL,Z8 r]
theorem Z9:∀l,kf l=zL rJ l
 |[]=>rfl
 |v::r=>by rw[kf,zL,Z9 r]
theorem Za:∀l,iP l=zL zO l
 |[]=>rfl
 |v::r=>by rw[iP,zL,Za r]
theorem JW(x:bw):zX x=xh x.bn+x.gj.length+4:=by obtain⟨a,b,c⟩:=x;simp only[zX,bw.bn,bw.gj];omega
theorem GC(x:gE):zP x=x.Tag.length+vC x.bE+3:=by obtain⟨a,b⟩:=x;simp only[zP,gE.Tag,gE.bE];omega
theorem GD(x:fc):zS x=x.bm.length+x.Value.length+mu x.aa+11:=by obtain⟨a,b,c,d,e,f,g,h⟩:=x;simp only[zS,fc.bm,fc.Value,fc.aa];omega
theorem ug(x:bq):zC x=x.bm.length+zD x.aQ+ue x.aa+5:=by obtain⟨a,b,c,d,e⟩:=x;simp only[zC,bq.bm,bq.aQ,bq.aa];omega
theorem Br(x:cR):zD x=x.bm.length+cG x.Value+4:=by unfold zD;omega
theorem JX(x:bp):zR x=mu x.dE+rI x.cW+zC x.aS+kf x.bK+dZ x.br+6:=by obtain⟨a,b,c,d,e,f⟩:=x;simp only[zR,bp.dE,bp.cW,bp.aS,bp.bK,bp.br];omega
theorem mX{x:bw}{l:List bw}(h:x∈l):zX x≤mu l:=by rw[Z4];exact Bp h
theorem mP{x:gE}{l:List gE}(h:x∈l):zP x≤xh l:=by rw[Z5];exact Bp h
theorem mS{x:fc}{l:List fc}(h:x∈l):zS x≤vC l:=by rw[Z6];exact Bp h
theorem mC{x:bq}{l:List bq}(h:x∈l):zC x≤ue l:=by rw[Sf];exact Bp h
theorem mR{x:bp}{l:List bp}(h:x∈l):zR x≤dZ l:=by rw[Z7];exact Bp h
theorem mD{x:cR}{l:List cR}(h:x∈l):zD x≤rI l:=by rw[Z8];exact Bp h
theorem mN{x:List a7}{l:List (List a7)}(h:x∈l):rJ x≤kf l:=by rw[Z9];exact Bp h
theorem mO{x:fJ}{l:List fJ}(h:x∈l):zO x≤iP l:=by rw[Za];exact Bp h
theorem nX(l:List bw):l.length≤mu l:=by rw[Z4];exact Bq (λx=>by rw[JW];omega) l
theorem nP(l:List gE):l.length≤xh l:=by rw[Z5];exact Bq (λx=>by rw[GC];omega) l
theorem nS(l:List fc):l.length≤vC l:=by rw[Z6];exact Bq (λx=>by rw[GD];omega) l
theorem nC(l:List bq):l.length≤ue l:=by rw[Sf];exact Bq (λx=>by rw[ug];omega) l
theorem nR(l:List bp):l.length≤dZ l:=by rw[Z7];exact Bq (λx=>by rw[JX];omega) l
theorem nD(l:List cR):l.length≤rI l:=by rw[Z8];exact Bq (λx=>by rw[Br];omega) l
theorem nN(l:List (List a7)):l.length≤kf l:=by rw[Z9];exact Bq (λx=>by unfold rJ;omega) l
theorem nO(l:List fJ):l.length≤iP l:=by rw[Za];exact Bq (λx=>by unfold zO;omega) l
end Go.Proofs.YtdkddffedangnaaGreatDoor
