/-
  Component values: how large they are, and what a reading says of them. No program in sight.
-/
import Derived.Test.YtnjmihahnjohoaaGreatDoorQ2
import Derived.Test.YtnjmihahnjohoaaGreatDoorX
import Derived.Test.YtnjmihahnjohoaaGreatDoorWHc
import Derived.KernelRfl
set_option linter.unusedVariables false
set_option maxRecDepth 100000
namespace Go.Proofs.YtnjmihahnjohoaaGreatDoor
open Go Go.V Go.RowKit
def zT(x:bW):Nat:=1+(x.bU.length+1)+1+(x.Unit.length+1)+1+1
mutual
def zV:aj→Nat
  | .mk t l=>zT t+(cj l+1)+1
def cj:List aj→Nat
  |[]=>0
  |v::r=>zV v+cj r
end
theorem Vg:∀l:List aj,cj l=(l.map zV).sum
  |[]=>rfl
  |y::l=>by rw[cj,Vg l];rfl
def wfT(x:bW):Prop:=(Lit.int .u8 x.a7).wf=true∧x.bU.length≤maxLen∧(Lit.int .i64 x.bj).wf=true∧x.Unit.length≤maxLen∧True
mutual
def LI:aj→Prop
  | .mk t l=>wfT t∧l.length≤maxLen∧Pe l
def Pe:List aj→Prop
  |[]=>True
  |v::r=>LI v∧Pe r
end
theorem a0D:∀l:List aj,(∀x∈l,LI x)→Pe l
  |[],_=>trivial
  |y::l,h=>by
    rw[Pe];exact⟨h y List.mem_cons_self,a0D l λx hx=>h x (List.mem_cons_of_mem _ hx)⟩
end Go.Proofs.YtnjmihahnjohoaaGreatDoor
namespace Go.V
def lU(t:Int→Bool):Nat→Nat→Option Int
 |0,_=>none
 |k+1,i=>cond (t i) (some (i:Int)) (lU t k (i+1))
theorem HH{β:Type}{i N:Int}{X Y:Option β}(hi:0≤i):cond (decide (i<N)) (au (0≤i∧i<N) X) Y=cond (decide (i<N)) X Y:=by
 by_cases h:i<N
 ·rw[bz ⟨hi,h⟩]
 ·rw[cv h];rfl
theorem HI{β:Type}(F:Nat→Int→Option β)(t:Int→Bool)(hit:Int→β)(lV:β)(N:Int)(n:Nat)(hN:N=n)(hn:n<4611686018427387904)
  (hF:∀kk (i:Int),0≤i→F (kk+1) i=cond (decide (i<N)) (cond (t i) (some (hit i)) (F kk (a8 (i+1)))) (some lV)):
  ∀(k i kk:Nat),k=n-i→i≤n→k<kk→F kk (i:Int)=some (((lU t k i).map hit).getD lV):=by
 subst hN;intro k
 induction k with
 |zero=>
  intro i kk hk hi hkk;obtain⟨kk,rfl⟩:∃q,kk=q+1:=⟨kk-1,by omega⟩;rw[hF kk i (by omega)];have:decide ((i:Int)<n)=false:=cv (by omega);rw[this];rfl
 |succ k ih=>
  intro i kk hk hi hkk;obtain⟨kk,rfl⟩:∃q,kk=q+1:=⟨kk-1,by omega⟩;rw[hF kk i (by omega)];have:decide ((i:Int)<n)=true:=cB (by omega);rw[this,bG (by omega)];simp only[aB];rw[lU];cases t i
  ·simp only[aG];exact ih (i+1) kk (by omega) (by omega) (by omega)
  ·rfl
theorem LJ(t:Int→Bool):∀(k i:Nat)(r:Int),lU t k i=some r→(i:Int)≤r∧r<(i+k:Nat)
 |0,_,_,h=>by cases h
 |k+1,i,r,h=>by
  rw[lU]at h;cases ht:t i<;>rw[ht]at h
  ·have:=LJ t k (i+1) r h;omega
  ·cases h;omega
end Go.V
namespace Go.Proofs.YtnjmihahnjohoaaGreatDoor
open Go Go.V Go.RowKit
theorem Pf{α:Type}[BEq α][LawfulBEq α][DecidableEq α](a b:α):(a==b)=(b==a):=by
 by_cases h:a=b
 ·subst h;rfl
 ·rw[bM.2 h,bM.2 (Ne.symm h)]
def fO:List da:=(CR 64).getD []
theorem Vh:CR 64=some fO:=by kernel_rfl
theorem Vi:Hi=some fO:=by kernel_rfl
theorem HJ:ln fO=((18:Nat):Int):=by kernel_rfl
def find(s:ag):Option Int:=lU (λi=>(gi fO i).aO==s) 18 0
def pE(s:ag):Int×Int:=match find s with
 |none=>(0,6)
 |some i=>(i,0)
theorem a0E(s:ag):FX 64 s=some (pE s):=by
 have h:=HI (K6 64 fO s) (λi=>(gi fO i).aO==s) (λi=>Sum.inl i) (Sum.inr ()) (ln fO) 18 HJ (by decide)
  (λkk i hi=>by rw[K6];exact HH hi) 18 0 64 rfl (by decide) (by decide)
 unfold FX;rw[Vh];simp only[aF];unfold O6;rw[show(0:Int)=((0:Nat):Int)from rfl,h];unfold pE find;cases hf:lU (λi=>(gi fO i).aO==s) 18 0 with
 |none=>rfl
 |some r=>
  have h0:=LJ _ _ _ _ hf;have h1:decide (r<0)=false:=cv (by omega);simp only[Option.map_some,Option.getD_some,aF,bK];show cond (decide (r<0)) _ _=_;rw[h1];rfl
theorem a0F(s:ag):Hk 64 s=some (pE s):=by
 have h:=HI (L9 64 s fO) (λi=>(gi fO i).aO==s) (λi=>Sum.inl (i,0)) (Sum.inr ()) (ln fO) 18 HJ (by decide)
  (λkk i hi=>by rw[L9];exact HH hi) 18 0 64 rfl (by decide) (by decide)
 unfold Hk;rw[Vi];simp only[aF];rw[show(0:Int)=((0:Nat):Int)from rfl,h];unfold pE find;cases hf:lU (λi=>(gi fO i).aO==s) 18 0 with
 |none=>rfl
 |some r=>rfl
theorem a0G{s:ag}(h:(pE s).2=0):0≤(pE s).1∧(pE s).1<ln fO:=by
 rw[HJ];unfold pE find at h⊢;cases hf:lU (λi=>(gi fO i).aO==s) 18 0 with
 |none=>rw[hf]at h;cases h
 |some r=>
  have h0:=LJ _ _ _ _ hf;show 0≤r∧r<_;omega
def pF(s:ag):Bool:=decide (2<ln s)&&decide (ln s≤64)&&sub s 0 2==[45,45]
theorem a0H(s:ag):FM s=some (pF s):=by
 unfold FM strings_HasPrefix stringslite_HasPrefix;rw[show ln ([45,45]:ag)=2 from rfl,bz (λh=>⟨by decide,jH h⟩)];simp only[lt_eq,aF];congr 1;unfold pF;by_cases h2:2<ln s
 ·have:(2:Int)≤ln s:=by omega
  simp[h2,this];cases(sub s 0 2==[45,45])<;>simp
 ·simp[h2]
theorem a0I(s:ag):Hh s=some (pF s):=by
 unfold Hh;simp only[lt_eq];rw[bz (λh=>⟨by decide,by
  by_cases h2:2<ln s
  ·omega
  ·rw[cv h2]at h;cases h⟩)]
 congr 1;unfold pF;cases decide (2<ln s)<;>cases decide (ln s≤64)<;>rfl
def wU(s:ag):Bool×Int:=cond (pF s) (true,0) (cond ((pE s).2 !=0) (false,(pE s).2) ((gi fO (pE s).1).FO,0))
theorem acA(s:ag):FY 64 s=some (wU s):=by
 unfold FY;rw[a0H];simp only[aF];unfold wU;cases pF s
 ·simp only[aG];rw[a0E];simp only[aF];cases h:((pE s).2 !=0)
  ·simp only[aG];rw[Vh];simp only[aF];rw[bz (a0G (by simpa using h))]
  ·rfl
 ·rfl
theorem acB(s:ag):Hl 64 s=some (wU s):=by
 unfold Hl;rw[a0I];simp only[aF];unfold wU;cases pF s
 ·simp only[aG];rw[a0F];simp only[aF];cases h:((pE s).2 !=0)
  ·simp only[aG];rw[Vi];simp only[aF];rw[bz (a0G (by simpa using h))]
  ·rfl
 ·rfl
theorem LL(l:List ag)(x:ag)(h:l.length<60):sY 64 l x=some (lU (λi=>x==gi l i) l.length 0).isSome:=by
 have h1:=HI (Jz 64 l x) (λi=>x==gi l i) (λi=>Sum.inl i) (Sum.inr ()) (ln l) l.length rfl (by omega)
  (λkk i hi=>by rw[Jz];exact HH hi) l.length 0 64 rfl (by omega) (by omega)
 unfold sY Ny;rw[show(0:Int)=((0:Nat):Int)from rfl,h1];cases hf:lU (λi=>x==gi l i) l.length 0 with
 |none=>rfl
 |some r=>
  have h0:=LJ _ _ _ _ hf;have h2:decide (((0:Nat):Int)≤r)=true:=cB (by omega);show some (decide (((0:Nat):Int)≤r))=_;rw[h2];rfl
theorem lB(x:aj):cj x.J+6<zV x:=by
 obtain⟨t,l⟩:=x;simp only[zV,aj.J,zT];omega
theorem kM{x:aj}:∀{l:List aj},x∈l→zV x≤cj l
 |[],h=>by cases h
 |y::l,h=>by
  rcases List.mem_cons.1 h with rfl|h
  ·simp only[cj];omega
  ·have:=kM h;simp only[cj];omega
theorem jz:∀l:List aj,l.length≤cj l
 |[]=>dz _
 |y::l=>by have:=jz l;have:=lB y;simp only[cj,cN];omega
theorem fY{α:Type}[Inhabited α]{l:List α}{i:Nat}(h:i<l.length):gi l (i:Int)∈l:=by rw[fh l i h];exact List.getElem_mem h
theorem acC(m:Nat)(v:List aj)(most:Int)(rec:List aj→Int→Option Int)(hl:v.length<2000000)(hr:∀x∈v,∀q,∃n,rec x.J q=some n):
  ∀(kk i:Nat)(n:Int),v.length-i<kk→i≤v.length→∃r,IK m v most rec kk n (i:Int)=some r:=by
 intro kk
 induction kk with
 |zero=>intro i n h;omega
 |succ kk ih=>
  intro i n h hi;rw[IK,lt_eq];by_cases h1:i<v.length
  ·rw[ct h1,aB];cases decide (n≤most)
   ·exact⟨_,rfl⟩
   ·rw[aB,bR h1,lt_eq];obtain⟨y,hy⟩:=hr _ (fY h1) (a8 (most-n));rw[hy,aF,bG (by omega)];exact ih (i+1) _ (by omega) (by omega)
  ·rw[cq (by omega),aG];exact⟨_,rfl⟩
theorem acD(m:Nat)(hm:1048577<m):∀(k:Nat)(v:List aj)(q:Int),cj v<k→cj v≤1048576→∃n,BZ m k v q=some n:=by
 intro k
 induction k with
 |zero=>intro v q h;omega
 |succ k ih=>
  intro v q h hb;have hl:=jz v;obtain⟨n,hn⟩:=acC m v q (BZ m k) (by omega) (λx hx q=>by
   have h1:=kM hx;have h2:=lB x;exact ih _ _ (by omega) (by omega)) m 0 0 (by omega) (by omega)
  refine⟨n,?_⟩;rw[BZ];rw[show(0:Int)=((0:Nat):Int)from rfl]at hn⊢;rw[hn];rfl
def ij(k:Int):Int:=lp k
theorem a0J(k:Int):oc k=ij k:=by
 unfold oc ij lp;simp only[lt_eq];by_cases h2:k=2
 ·subst h2;rfl
 by_cases h19:k=19
 ·subst h19;rfl
 by_cases h21:k=21
 ·subst h21;rfl
 by_cases h23:k=23
 ·subst h23;rfl
 have b2:(k==2)=false:=by simpa using h2
 have Oo:(k==19)=false:=by simpa using h19
 have Cz:(k==21)=false:=by simpa using h21
 have b23:(k==23)=false:=by simpa using h23
 rw[b2,Oo,Cz,b23];rfl
mutual
def Pg:aj→Nat
 | .mk t l=>cond (ij t.a7==0) 0 (1+fI l)
def fI:List aj→Nat
 |[]=>0
 |v::r=>max (Pg v) (fI r)
end
mutual
def LM:aj→Nat
 | .mk t l=>cond (ij t.a7==0) 1 (1+gw l+1)
def gw:List aj→Nat
 |[]=>0
 |v::r=>LM v+gw r
end
mutual
def Ph:Int→aj→Bool
 |c,.mk t l=>cond (c !=0) (t.a7==c) false||cond (ij t.a7==0) (decide (0<ln l)) (na (ij t.a7) l)
def na:Int→List aj→Bool
 |_,[]=>false
 |c,v::r=>Ph c v||na c r
end
theorem Vj(x:aj):Pg x=cond (ij x.ay.a7==0) 0 (1+fI x.J):=by obtain⟨t,l⟩:=x;rw[Pg];rfl
theorem Ed(x:aj):LM x=cond (ij x.ay.a7==0) 1 (1+gw x.J+1):=by obtain⟨t,l⟩:=x;rw[LM];rfl
theorem a0K(c:Int)(x:aj):Ph c x=(cond (c !=0) (x.ay.a7==c) false||cond (ij x.ay.a7==0) (decide (0<ln x.J)) (na (ij x.ay.a7) x.J)):=by obtain⟨t,l⟩:=x;rw[Ph];rfl
theorem a0L{l:List aj}{i:Nat}(h:i<l.length):fI (l.drop i)=max (Pg (gi l (i:Int))) (fI (l.drop (i+1))):=by
 rw[fv h,fI,fh l i h]
theorem LN{l:List aj}{i:Nat}(h:i<l.length):gw (l.drop i)=LM (gi l (i:Int))+gw (l.drop (i+1)):=by
 rw[fv h,gw,fh l i h]
theorem a0M(c:Int){l:List aj}{i:Nat}(h:i<l.length):na c (l.drop i)=(Ph c (gi l (i:Int))||na c (l.drop (i+1))):=by
 rw[fv h,na,fh l i h]
theorem wV(n:Nat):∀v:List aj,cj v≤n→gw v≤cj v∧fI v≤cj v:=by
 induction n with
 |zero=>
  intro v h;cases v with
  |nil=>exact⟨dz _,dz _⟩
  |cons x r=>have:=lB x;simp only[cj]at h;omega
 |succ n ih=>
  intro v
  induction v with
  |nil=>intro _;exact⟨dz _,dz _⟩
  |cons x r yF=>
   intro h;have hk:=lB x;rw[cj]at h;have h1:=yF (by omega);have h2:=ih x.J (by omega);rw[gw,cj,fI,Ed,Vj];cases(ij x.ay.a7==0)<;>simp only[aB,aG]<;>omega
theorem acE(m:Nat)(v:List aj)(rec:List aj→Option Int)(hl:cj v≤1048576)(hr:∀x∈v,rec x.J=some ((fI x.J:Nat):Int)):
  ∀(kk i a:Nat),v.length-i<kk→i≤v.length→a≤1048577→IL m v rec kk (a:Int) (i:Int)=some ((max a (fI (v.drop i)):Nat):Int):=by
 have hlen:=jz v;intro kk
 induction kk with
 |zero=>intro i a h;omega
 |succ kk ih=>
  intro i a h hi ha;rw[IL];by_cases h1:i<v.length
  ·have hm:=fY h1;have hz:=kM hm;have hk:=lB (gi v (i:Int));have pG:=(wV _ (gi v (i:Int)).J (dz _)).2;rw[ct h1,aB,bR h1,lt_eq,a0L h1,Vj];show(Option.bind (cond (ij (gi v (i:Int)).ay.a7 !=0) _ _) _)=_;unfold bne;cases hc:(ij (gi v (i:Int)).ay.a7==0)
   ·rw[gS,aB,aG,hr _ hm,aF,lt_eq,aF,o5 (by omega) (by omega)];have e:(if(a:Int)<1+((fI (gi v (i:Int)).J:Nat):Int)then 1+((fI (gi v (i:Int)).J:Nat):Int)else(a:Int))=((max a (1+fI (gi v (i:Int)).J):Nat):Int):=by split<;>omega
    rw[e,bG (by omega),ih (i+1) _ (by omega) (by omega) (by omega)];congr 2<;>omega
   ·rw[fL,aG,aB,aF,bG (by omega),ih (i+1) _ (by omega) (by omega) (by omega)];congr 2<;>omega
  ·rw[cq (by omega),aG,gR (by omega),fI];congr 2<;>omega
theorem Pj(m:Nat)(hm:1048577<m):∀(k:Nat)(v:List aj),cj v<k→cj v≤1048576→C0 m k v=some ((fI v:Nat):Int):=by
 intro k
 induction k with
 |zero=>intro v h;omega
 |succ k ih=>
  intro v h hb;have hl:=jz v;have hn:=acE m v (C0 m k) hb (λx hx=>by
   have h1:=kM hx;have h2:=lB x;exact ih _ (by omega) (by omega)) m 0 0 (by omega) (by omega) (by omega)
  rw[C0];rw[show(0:Int)=((0:Nat):Int)from rfl,hn,aF,du,Nat.zero_max]
theorem acF(m:Nat)(v:List aj)(rec:List aj→Option (List bW))(hl:cj v≤1048576)(hr:∀x∈v,∃t,rec x.J=some t∧t.length=gw x.J):
  ∀(kk i:Nat)(a:List bW),v.length-i<kk→i≤v.length→a.length+gw (v.drop i)≤1048577→∃t,AE m v rec kk a (i:Int)=some t∧t.length=a.length+gw (v.drop i):=by
 have hlen:=jz v;intro kk
 induction kk with
 |zero=>intro i a h;omega
 |succ kk ih=>
  intro i a h hi ha;rw[AE];by_cases h1:i<v.length
  ·have hm:=fY h1;obtain⟨t,ht,htl⟩:=hr _ hm;rw[LN h1,Ed]at ha⊢;rw[ct h1,aB,bR h1];have e1:ij (gi v (i:Int)).ay.a7=lp (gi v (i:Int)).ay.a7:=rfl;rw[←e1];unfold bne;cases hc:(ij (gi v (i:Int)).ay.a7==0)<;>rw[hc]at ha<;>simp only[aB,aG]at ha⊢
   ·rw[bz (by unfold ln;simp only[cN,dn];omega),lt_eq,lt_eq,gS,aB,ht,aF];rw[bz (by unfold ln;simp only[ee,cN,dn];omega),lt_eq];rw[bz (by unfold ln;simp only[ee,cN,dn];omega),lt_eq,aF,bG (by omega)];obtain⟨r,Vk,LO⟩:=ih (i+1) (a++[(gi v (i:Int)).ay]++t++[bW.mk (ij (gi v (i:Int)).ay.a7) [] 0 [] false]) (by omega) (by omega) (by simp only[ee,cN,dn];omega);refine⟨r,Vk,?_⟩;rw[LO];simp only[ee,cN,dn];omega
   ·rw[bz (by unfold ln;simp only[cN,dn];omega),lt_eq,lt_eq,fL,aG,aF,bG (by omega)];obtain⟨r,Vk,LO⟩:=ih (i+1) (a++[(gi v (i:Int)).ay]) (by omega) (by omega) (by simp only[ee,cN,dn];omega);refine⟨r,Vk,?_⟩;rw[LO];simp only[ee,cN,dn];omega
  ·rw[cq (by omega),aG,gR (by omega),gw];exact⟨a,rfl,rfl⟩
theorem acG(m:Nat)(hm:1048577<m):∀(k:Nat)(v:List aj),cj v<k→cj v≤1048576→∃t,wK m k v=some t∧t.length=gw v:=by
 intro k
 induction k with
 |zero=>intro v h;omega
 |succ k ih=>
  intro v h hb;have hl:=jz v;have hk:=(wV _ v (dz _)).1;obtain⟨t,h1,h2⟩:=acF m v (wK m k) hb (λx hx=>by
   have h1:=kM hx;have h2:=lB x;exact ih _ (by omega) (by omega)) m 0 [] (by omega) (by omega) (by rw[du];simp only[dn];omega)
  refine⟨t,?_,by rw[h2,du];simp⟩;rw[wK];rw[show(0:Int)=((0:Nat):Int)from rfl,h1,aF]
theorem acH(m:Nat)(v:List aj)(c:Int)(rec:List aj→Int→Option Bool)(hl:cj v≤1048576)(hr:∀x∈v,∀c,rec x.J c=some (!(na c x.J))):
  ∀(kk i:Nat),v.length-i<kk→i≤v.length→KO m v c rec kk (i:Int)=some (cond (na c (v.drop i)) (.inl false) (.inr ())):=by
 have hlen:=jz v;intro kk
 induction kk with
 |zero=>intro i h;omega
 |succ kk ih=>
  intro i h hi;rw[KO];by_cases h1:i<v.length
  ·have hm:=fY h1;rw[ct h1,aB,bR h1,lt_eq,lt_eq,lt_eq,a0M c h1,a0K];have e1:ij (gi v (i:Int)).ay.a7=lp (gi v (i:Int)).ay.a7:=rfl;rw[←e1,hr _ hm];unfold bne;cases hc:(ij (gi v (i:Int)).ay.a7==0)
   ·cases hz:(c==0)<;>cases hk:((gi v (i:Int)).ay.a7==c)<;>cases hs:na (ij (gi v (i:Int)).ay.a7) (gi v (i:Int)).J<;>
     simp only[gS,fL,aB,aG,aF,lt_eq,o7,Bool.true_or,Bool.or_false,Bool.or_true]<;>
     first|rfl|(rw[bG (by omega)];exact ih (i+1) (by omega) (by omega))
   ·cases hz:(c==0)<;>cases hk:((gi v (i:Int)).ay.a7==c)<;>cases hs:decide (0<ln (gi v (i:Int)).J)<;>
     simp only[gS,fL,aB,aG,aF,lt_eq,o7,Bool.true_or,Bool.or_false,Bool.or_true]<;>
     first|rfl|(rw[bG (by omega)];exact ih (i+1) (by omega) (by omega))
  ·rw[cq (by omega),aG,gR (by omega),na];rfl
theorem acI(m:Nat)(hm:1048577<m):∀(k:Nat)(v:List aj)(c:Int),cj v<k→cj v≤1048576→Dy m k v c=some (!(na c v)):=by
 intro k
 induction k with
 |zero=>intro v c h;omega
 |succ k ih=>
  intro v c h hb;have hl:=jz v;have hn:=acH m v c (Dy m k) hb (λx hx c=>by
   have h1:=kM hx;have h2:=lB x;exact ih _ _ (by omega) (by omega)) m 0 (by omega) (by omega)
  rw[Dy];rw[show(0:Int)=((0:Nat):Int)from rfl,hn,aF,du];cases na c v<;>rfl
theorem acJ(m:Nat)(v:List aj)(c:Int)(rec:List aj→Int→Option vH)(hl:cj v≤1048576)(hr:∀x∈v,∀c,rec x.J c=some ⟨((fI x.J:Nat):Int),((gw x.J:Nat):Int),na c x.J⟩):
  ∀(kk i a t:Nat)(b:Bool),v.length-i<kk→i≤v.length→a≤1048577→t+gw (v.drop i)≤1048577→
   Jg m v c rec kk (i:Int) (a:Int) (t:Int) b=some (((max a (fI (v.drop i)):Nat):Int),((t+gw (v.drop i):Nat):Int),b||na c (v.drop i)):=by
 have hlen:=jz v;intro kk
 induction kk with
 |zero=>intro i a t b h;omega
 |succ kk ih=>
  intro i a t b h hi ha pG;rw[Jg];by_cases h1:i<v.length
  ·have hm:=fY h1;have hz:=kM hm;have hk:=lB (gi v (i:Int));have aha:=wV _ (gi v (i:Int)).J (dz _);rw[LN h1,Ed]at pG;rw[ct h1,aB,bR h1,lt_eq,lt_eq,a0M c h1,a0K,a0L h1,Vj,LN h1,Ed,a0J,hr _ hm];have wi:a8 ((i:Int)+1)=((i+1:Nat):Int):=bG (by omega);have ahb:t+1≤1048577:=by
    cases hq:(ij (gi v (i:Int)).ay.a7==0)<;>rw[hq]at pG<;>simp only[aB,aG]at pG<;>omega
   have w1:a8 ((t:Int)+1)=((t+1:Nat):Int):=bG (by omega);unfold bne;cases hc:(ij (gi v (i:Int)).ay.a7==0)
   ·rw[hc]at pG;simp only[aG]at pG;have w2:a8 (((fI (gi v (i:Int)).J:Nat):Int)+1)=((fI (gi v (i:Int)).J+1:Nat):Int):=bG (by omega);have w3:a8 (a8 (a8 ((t:Int)+1)+((gw (gi v (i:Int)).J:Nat):Int))+1)=((t+(1+gw (gi v (i:Int)).J+1):Nat):Int):=by
     rw[w1,o5 (x:=((t+1:Nat):Int)+_) (by omega) (by omega),o5 (by omega) (by omega)];omega
    have e:(if(a:Int)<((fI (gi v (i:Int)).J+1:Nat):Int)then((fI (gi v (i:Int)).J+1:Nat):Int)else(a:Int))=((max a (1+fI (gi v (i:Int)).J):Nat):Int):=by split<;>omega
    have Vl:=λb=>ih (i+1) (max a (1+fI (gi v (i:Int)).J)) (t+(1+gw (gi v (i:Int)).J+1)) b (by omega) (by omega) (by omega) (by omega);cases hz:(c==0)<;>cases hk:((gi v (i:Int)).ay.a7==c)<;>cases hs:na (ij (gi v (i:Int)).ay.a7) (gi v (i:Int)).J<;>cases b<;>
     simp only[gS,fL,aB,aG,aF,lt_eq,o7,Bool.true_or,Bool.or_false,Bool.or_true,w2,w3,wi,e,Vl]<;>simp only[Nat.max_assoc,Nat.add_assoc]
   ·rw[hc]at pG;simp only[aB]at pG;have Vl:=λb=>ih (i+1) a (t+1) b (by omega) (by omega) (by omega) (by omega);cases hz:(c==0)<;>cases hk:((gi v (i:Int)).ay.a7==c)<;>cases hs:decide (0<ln (gi v (i:Int)).J)<;>cases b<;>
     simp only[gS,fL,aB,aG,aF,lt_eq,o7,Bool.true_or,Bool.or_false,Bool.or_true,w1,wi,Vl]<;>simp only[Nat.zero_max,Nat.add_assoc]
  ·rw[cq (by omega),aG,gR (by omega),na,fI,gw,Bool.or_false,Nat.max_zero,Nat.add_zero]
theorem a0N(m:Nat)(hm:1048577<m):∀(k:Nat)(v:List aj)(c:Int),cj v<k→cj v≤1048576→Ce m k v c=some ⟨((fI v:Nat):Int),((gw v:Nat):Int),na c v⟩:=by
 intro k
 induction k with
 |zero=>intro v c h;omega
 |succ k ih=>
  intro v c h hb;have hl:=jz v;have hk:=(wV _ v (dz _)).1;have hn:=acJ m v c (Ce m k) hb (λx hx c=>by
   have h1:=kM hx;have h2:=lB x;exact ih _ _ (by omega) (by omega)) m 0 0 0 false (by omega) (by omega) (by omega) (by rw[du];omega)
  rw[Ce];rw[show(0:Int)=((0:Nat):Int)from rfl,hn,aF,du,Nat.zero_max,Nat.zero_add,o7]
def gN(v:List aj):Int:=if 16<fI v then 20 else if 1500<gw v then 4 else if na 0 v then 8 else 0
theorem Pl(m:Nat)(hm:1048577<m)(v:List aj)(hb:cj v≤1048576):zK m v=some (gN v):=by
 unfold zK Ji gN;rw[a0N m hm m v 0 (by omega) hb,aF];have e1:decide ((16:Int)<((fI v:Nat):Int))=decide (16<fI v):=by simp;omega
 have e2:decide ((1500:Int)<((gw v:Nat):Int))=decide (1500<gw v):=by simp;omega
 show cond (decide ((16:Int)<((fI v:Nat):Int))) _ _=_;rw[e1,e2];by_cases h1:16<fI v
 ·simp[h1]
 ·by_cases h2:1500<gw v
  ·simp[h1,h2]
  ·cases na 0 v<;>simp[h1,h2]
theorem a0O(m:Nat)(hm:1048577<m)(v:List aj)(hb:cj v≤1048576):GH m v=some (gN v):=by
 unfold GH xA KN TP gN;obtain⟨t,h1,h2⟩:=acG m hm m v (by omega) hb;rw[Pj m hm m v (by omega) hb,aF,h1,aF,acI m hm m v 0 (by omega) hb,aF];have e1:decide ((16:Int)<((fI v:Nat):Int))=decide (16<fI v):=by simp;omega
 have e2:decide ((1500:Int)<ln t)=decide (1500<gw v):=by unfold ln;rw[h2];simp;omega
 rw[e1,e2,Bool.not_not];by_cases h1:16<fI v
 ·simp[h1]
 ·by_cases h2:1500<gw v
  ·simp[h1,h2]
  ·cases na 0 v<;>simp[h1,h2]
theorem acK(m:Nat)(v:List aj)(rec:List aj→Option (List aj))(hl:cj v≤1048576)(hr:∀x∈v,rec x.J=some x.J):
  ∀(kk i:Nat),v.length-i<kk→i≤v.length→Kx m v rec kk (v.take i) (i:Int)=some v:=by
 have hlen:=jz v;intro kk
 induction kk with
 |zero=>intro i h;omega
 |succ kk ih=>
  intro i h hi;rw[Kx];by_cases h1:i<v.length
  ·rw[ct h1,aB,bR h1,hr _ (fY h1),aF,bz (by unfold ln;rw[List.length_take];simp only[cN,dn];omega),lt_eq,bG (by omega)];have e:v.take i++[aj.mk (gi v (i:Int)).ay (gi v (i:Int)).J]=v.take (i+1):=by
    rw[List.take_succ_eq_append_getElem h1,fh v i h1];obtain⟨t,l⟩:=v[i];rfl
   rw[e];exact ih (i+1) (by omega) (by omega)
  ·rw[cq (by omega),aG,List.take_of_length_le (by omega)]
theorem acL(m:Nat)(hm:1048577<m):∀(k:Nat)(v:List aj),cj v<k→cj v≤1048576→Dd m k v=some v:=by
 intro k
 induction k with
 |zero=>intro v h;omega
 |succ k ih=>
  intro v h hb;have hl:=jz v;have hn:=acK m v (Dd m k) hb (λx hx=>by
   have h1:=kM hx;have h2:=lB x;exact ih _ (by omega) (by omega)) m 0 (by omega) (by omega)
  rw[List.take_zero]at hn;rw[Dd];rw[show(0:Int)=((0:Nat):Int)from rfl,hn,aF]
abbrev FU:Nat:=1100000
theorem LP:1048577<FU:=by decide
def h9:ag:=[109,97,114,103,105,110]
def pH(w:ag):Bool:=cond (w==[98,111,114,100,101,114]) true (cond (w==[111,117,116,108,105,110,101]) true (w==[98,97,99,107,103,114,111,117,110,100]))
def Po:List ag:=[[109,97,114,103,105,110,45,116,111,112],[109,97,114,103,105,110,45,114,105,103,104,116],[109,97,114,103,105,110,45,98,111,116,116,111,109],[109,97,114,103,105,110,45,108,101,102,116]]
def gE(w:ag):List ag×Int:=cond (w==h9) (Po,0) (cond (pH w) ([w++[45,99,111,108,111,114]],0) (cond ((wU w).2 !=0) ([],6) ([w],0)))
theorem a0P(w:ag):(wU w).2=0∨(wU w).2=6:=by
 unfold wU;cases pF w
 ·rw[aG];unfold pE;cases find w with
  |none=>exact Or.inr rfl
  |some r=>exact Or.inl rfl
 ·exact Or.inl rfl
theorem Vm(a b c d x:ag):(lU (λi=>x==gi [a,b,c,d] i) 4 0).isSome=cond (x==a) true (cond (x==b) true (cond (x==c) true (x==d))):=by
 simp only[lU];rw[show gi [a,b,c,d] ((0:Nat):Int)=a from rfl,show gi [a,b,c,d] ((0+1:Nat):Int)=b from rfl,show gi [a,b,c,d] ((0+1+1:Nat):Int)=c from rfl,show gi [a,b,c,d] ((0+1+1+1:Nat):Int)=d from rfl];cases(x==a)<;>cases(x==b)<;>cases(x==c)<;>cases(x==d)<;>rfl
theorem acM(w:ag)(hw:w.length≤1048576):K7 64 w=some (gE w):=by
 unfold K7 A7 gE;rw[lt_eq,LL ya w (by decide),aF];rw[show(lU (λi=>w==gi ya i) ya.length 0).isSome=cond (w==h9) true (pH w)from Vm _ _ _ _ w];cases hm:(w==h9)
 ·rw[aG,lt_eq];cases hs:pH w
  ·rw[gS,aB,aF,aG];show Option.bind (FY 64 w) _=_;rw[acA,aF];rcases a0P w with h|h<;>rw[h]<;>rfl
  ·rw[fL,aG,show(!(w==([109,97,114,103,105,110]:ag)))=true from by rw[show(w==([109,97,114,103,105,110]:ag))=false from hm];rfl,aB,bz (by unfold ln;simp only[cN,dn];omega),aF];rfl
 ·have e:w=h9:=eq_of_beq hm;subst e;rw[show JS 64 h9 64 [] 0=some Po from by kernel_rfl];rfl
theorem acN(w:ag)(hw:w.length≤1048576):Lb 64 w=some (gE w):=by
 unfold Lb AY gE;rw[show(w==([109,97,114,103,105,110]:ag))=(w==h9)from rfl];cases hm:(w==h9)
 ·simp only[lt_eq,aG];have e:(cond (w==([98,111,114,100,101,114]:ag)) (some (w==([98,111,114,100,101,114]:ag))) (cond (w==([111,117,116,108,105,110,101]:ag)) (some (w==([111,117,116,108,105,110,101]:ag))) (some (w==([98,97,99,107,103,114,111,117,110,100]:ag)))))=some (pH w):=by
   unfold pH;cases(w==([98,111,114,100,101,114]:ag))<;>cases(w==([111,117,116,108,105,110,101]:ag))<;>rfl
  rw[e,aF];cases hs:pH w
  ·rw[aG,aF];show Option.bind (Hl 64 w) _=_;rw[acB,aF];rcases a0P w with h|h<;>rw[h]<;>rfl
  ·rw[aB,bz (by unfold ln;simp only[cN,dn];omega),aF];rfl
 ·rfl
theorem a0Q(w:ag):(gE w).1.length≤4:=by
 unfold gE;cases(w==h9)<;>cases pH w<;>cases((wU w).2 !=0)<;>exact Nat.le_of_ble_eq_true rfl
def c0:be:=be.mk 0 0 0 0
theorem acO{s:ag}{i:Nat}(h:i<s.length):s.drop i=s[i]::s.drop (i+1):=fv h
theorem Pp{p:Nat→Bool}{k n:Nat}(h:((List.range k).all p)=true)(hn:n<k):p n=true:=List.all_eq_true.1 h n (List.mem_range.2 hn)
theorem acP{s:ag}{i:Nat}(h:i<s.length):sub s (i:Int) ((i+1:Nat):Int)=[s[i]]:=by
 unfold sub;rw[Int.toNat_natCast,Int.toNat_natCast,show i+1-i=1 from by omega,acO h];rfl
theorem a0R(x:Int):bA (bA (x+97)-65)=bA (x+32):=by rw[N1,N1,N1];omega
theorem acQ(m:Nat)(s:ag):∀(kk:Nat)(i:Int)(l:List Int),Ka m s kk i l=wQ m s kk i l:=by
 intro kk
 induction kk with
 |zero=>intro i l;rfl
 |succ kk ih=>
  intro i l;rw[Ka,wQ];simp only[ih,a0R]
theorem acR(m:Nat)(s:ag):wC m s=nQ m s:=by
 unfold wC nQ;rw[acQ]
theorem acS(m:Nat)(s:ag)(hs:s.length≤1048576):∀(kk i:Nat)(l:List Int),s.length-i<kk→i≤s.length→∃r,wQ m s kk (i:Int) l=some r:=by
 intro kk
 induction kk with
 |zero=>intro i l h;omega
 |succ kk ih=>
  intro i l hk hi;have hl:(bw s).length=s.length:=List.length_map ..;rw[wQ];by_cases hH:i<s.length
  ·have Pq:i<(bw s).length:=by omega
   rw[ct Pq,aB,bR Pq,lt_eq,bG (by omega)];cases cond (decide (65≤gi l (i:Int))) (decide (gi l (i:Int)≤90)) false with
   |true=>exact ih (i+1) _ (by omega) hH
   |false=>exact ih (i+1) _ (by omega) hH
  ·rw[cq (by omega),aG];exact⟨_,rfl⟩
theorem Pr(s:ag)(hs:s.length≤1048576):∃y,wC FU s=some y∧nQ FU s=some y:=by
 obtain⟨r,hr⟩:=acS FU s hs FU 0 (bw s) (by unfold FU;omega) (by omega);have h:nQ FU s=some (eT r):=by
  unfold nQ;rw[show wQ FU s FU 0 (bw s)=_ from hr];rfl
 exact⟨eT r,(acR FU s).trans h,h⟩
theorem acT(m:Nat)(s y:ag)(hy:nQ m s=some y)(ls:List ag)(cs:List be)(hl:ls.length=cs.length)(hl2:ls.length≤1000):∀(kk i:Nat),ls.length-i<kk→i≤ls.length→
  Hp m s ls cs kk (i:Int)=some (cond (decide (i+kx (ls.drop i) y<ls.length)) (.inl (gi cs ((i+kx (ls.drop i) y:Nat):Int),0)) (.inr ())):=by
 intro kk
 induction kk with
 |zero=>intro i h;omega
 |succ kk ih=>
  intro i hk hi;rw[Hp];by_cases hH:i<ls.length
  ·have Pq:i<cs.length:=by omega
   rw[ct hH,aB,bR hH,hy,aF,fh ls i hH,fv hH,kx];cases hc:(ls[i]==y)with
   |true=>
    have he:(y==ls[i])=true:=by rw[eq_of_beq hc];exact beq_self_eq_true _
    rw[aB,bR Pq,he,if_pos rfl,Nat.add_zero,cB hH,aB]
   |false=>
    have he:(y==ls[i])=false:=bM.2 λh=>by rw[h,beq_self_eq_true]at hc;cases hc
    rw[aG,he,bG (by omega),ih (i+1) (by omega) hH,if_neg (by decide),show i+1+kx (ls.drop (i+1)) y=i+(kx (ls.drop (i+1)) y+1) by omega]
  ·rw[cq (by omega),aG,cv (by omega),aG]
def HK:List ag:=[[98,108,97,99,107],[119,104,105,116,101],[114,101,100],[108,105,109,101],[98,108,117,101],[121,101,108,108,111,119],[103,114,97,121],[116,114,97,110,115,112,97,114,101,110,116]]
def nmP(x:Int):Option (be×Int):=cond (!(decide (x<8))) (some (be.mk 0 0 0 0,6)) (some (be.mk (gi ([0,255,255,0,0,255,128,0,0]:List Int) x) (gi ([0,255,0,255,0,255,128,0,0]:List Int) x) (gi ([0,255,0,0,255,0,128,0,0]:List Int) x) (gi ([255,255,255,255,255,255,255,0,0]:List Int) x),0))
theorem acU(s y:ag)(h:wC FU s=some y):FZ FU s=nmP (lG HK y):=by
 unfold FZ;rw[h];rfl
theorem acV(s y:ag)(h:nQ FU s=some y):Hq FU s=Option.bind (some (cond (decide (kx HK y<8)) (Sum.inl (gi Ho ((kx HK y:Nat):Int),(0:Int))) (Sum.inr ()))) λ(z:Sum (be×Int) Unit)=>bK z λ_=>some (be.mk 0 0 0 0,(6:Int)):=by
 have hr:=acT FU s y h Lh Ho rfl (by decide) FU 0 (by decide) (by decide);rw[du,Nat.zero_add]at hr;unfold Hq;rw[lt_eq,lt_eq,show Hp FU s Lh Ho FU 0=_ from hr];rfl
theorem acW(s:ag)(hs:s.length≤1048576):∃c:be×Int,FZ FU s=some c∧Hq FU s=some c:=by
 obtain⟨y,h1,h2⟩:=Pr s hs;have hk:=Rf HK y;rw[show HK.length=8 from rfl]at hk;rw[acU s y h1,acV s y h2];unfold lG;generalize kx HK y=n at hk;rcases(by omega:n=0∨n=1∨n=2∨n=3∨n=4∨n=5∨n=6∨n=7∨n=8)with h|h|h|h|h|h|h|h|h<;>subst h<;>exact⟨_,rfl,rfl⟩
def qu(n:Int):Bool:=cond (cond (cond (decide (n<48)) true (decide (57<n))) (cond (decide (n<97)) true (decide (102<n))) false) (cond (decide (n<65)) true (decide (70<n))) false
def Ps(n:Int):Option Int:=cond (cond (n==95) ((16:Int)==0) false) none (cond (cond (decide (48≤n)) (decide (n≤57)) false) (some (bA (n-48))) (cond (cond (decide (97≤ie n)) (decide (ie n≤122)) false) (some (bA (bA (ie n-97)+10))) none))
theorem acX:((List.range 256).all λ(n:Nat)=>qu (n:Int)||(match Ps (n:Int)with
  |some d=>decide (0≤d)&&decide (d<16)
  |none=>false))=true:=by kernel_rfl
theorem acY{n:Nat}(hn:n<256)(h:qu (n:Int)=false):∃d:Nat,d<16∧Ps (n:Int)=some (d:Int):=by
 have h1:=Pp acX hn;rw[h,o7]at h1;cases hv:Ps (n:Int)with
 |none=>rw[hv]at h1;cases h1
 |some d=>
  rw[hv]at h1;simp only[Bool.and_eq_true,decide_eq_true_eq]at h1;exact⟨d.toNat,by omega,by rw[show((d.toNat:Nat):Int)=d from by omega]⟩
theorem acZ(m:Nat)(z:ag)(hl:z.length=8)(hz:∀b∈z,qu (b.toNat:Int)=false):∀(kk i v:Nat),8-i<kk→i≤8→v<16^i→
  ∃v':Int,D0 m 16 (z,16) 1152921504606846976 4294967296 kk false (v:Int) (i:Int)=some (.inr (false,v')):=by
 intro kk
 induction kk with
 |zero=>intro i v h;omega
 |succ kk ih=>
  intro i v h hi hv;rw[D0];have ej:(bw z).length=8:=by unfold bw;rw[List.length_map,hl]
  by_cases h1:i<8
  ·have Ig:i<z.length:=by omega
   have hg:gi (bw z) (i:Int)=((z[i].toNat:Nat):Int):=by
    rw[fh _ i (by omega)];unfold bw;rw[List.getElem_map]
   obtain⟨d,hdi,Ee⟩:=acY z[i].toNat_lt (hz _ (List.getElem_mem Ig));generalize((z[i].toNat:Nat):Int)=c at*;have e8:16^8=4294967296:=by decide
   have hp:16^(i+1)≤16^8:=Nat.pow_le_pow_right (by decide) (by omega);have hp1:16^(i+1)=16^i*16:=Nat.pow_succ ..;have hv2:16*v+d<16^(i+1):=by omega
   rw[show decide ((i:Int)<ln (bw z))=true from ct (by omega),aB,bR (by omega:i<(bw z).length)];show∃v':Int,Option.bind (Option.bind (lt (cond (gi (bw z) (i:Int)==95) ((16:Int)==0) false) _) _) _=_;rw[hg,lt_eq];have QU:(cond (cond (c==95) ((16:Int)==0) false) (Option.bind (some (Sum.inr (true,(v:Int)))) λOe=>some (Sum.inl Oe)) (
     lt (cond (decide (48≤c)) (decide (c≤57)) false) λOg=>
     cond Og (some (Sum.inr (false,bA (c-48)))) (
     lt (decide (97≤ie c)) λuu=>
     lt (cond uu (decide (ie c≤122)) false) λOh=>
     cond Oh (lt (bA (ie c-97)) λKd=>some (Sum.inr (false,bA (Kd+10)))) none)):Option (Sum (Sum (Sum Int (Bool×Int)) (Bool×Int)) (Bool×Int)))=some (.inr (false,(d:Int))):=by
    simp only[lt_eq];unfold Ps at Ee
    revert Ee
    generalize(cond (c==95) ((16:Int)==0) false)=b1;generalize(cond (decide (48≤c)) (decide (c≤57)) false)=b2;generalize(cond (decide (97≤ie c)) (decide (ie c≤122)) false)=b3;intro Ee;cases b1
    ·cases b2
     ·cases b3
      ·cases Ee
      ·have:=Option.some.inj Ee;simp only[aG,aB,this]
     ·have:=Option.some.inj Ee;simp only[aG,aB,this]
    ·cases Ee
   rw[QU,aF];have c1:decide ((16:Int)≤(d:Int))=false:=cv (by omega);have c2:decide ((1152921504606846976:Int)≤(v:Int))=false:=cv (by omega);have w1:dZ ((v:Int)*dZ 16)=((16*v:Nat):Int):=by rw[show dZ 16=16 from rfl,Rk (by omega) (by omega)];omega
   have w2:dZ (((16*v:Nat):Int)+dZ (d:Int))=((16*v+d:Nat):Int):=by rw[Rk (x:=(d:Int)) (by omega) (by omega),Rk (by omega) (by omega)];omega
   show∃v':Int,Option.bind (cond (decide (bA 16≤(d:Int))) none (cond (decide ((1152921504606846976:Int)≤(v:Int))) none _)) _=_;rw[show bA 16=16 from rfl,c1,aG,c2,aG];show∃v':Int,Option.bind (lt (dZ (dZ ((v:Int)*dZ 16)+dZ (d:Int))) _) _=_;rw[w1,w2,lt_eq,cv (show¬((16*v+d:Nat):Int)<((16*v:Nat):Int)from by omega),lt_eq];show∃v':Int,Option.bind (lt (decide (dZ ((4294967296:Int)-1)<((16*v+d:Nat):Int))) _) _=_;rw[show dZ ((4294967296:Int)-1)=4294967295 from rfl,cv (by omega),lt_eq,aG,aF,bG (by omega)];exact ih (i+1) (16*v+d) (by omega) (by omega) hv2
  ·have hi8:i=8:=by omega
   subst hi8;rw[show decide (((8:Nat):Int)<ln (bw z))=false from cq (by omega),aG];exact⟨_,rfl⟩
theorem ad0(z:ag)(hl:z.length=8)(hz:∀b∈z,qu (b.toNat:Int)=false):∃n,D3 FU z 16 32=some n:=by
 obtain⟨v',h⟩:=acZ FU z hl hz FU 0 0 (by decide) (by decide) (by decide);have jD:(z==[])=false:=by
  cases z with
  |nil=>cases hl
  |cons d r=>rfl
 unfold D3 Oi;rw[jD,aG];show∃n,Option.bind (Option.bind (D0 FU 16 (z,16) 1152921504606846976 4294967296 FU false 0 0) _) _=_;rw[show D0 FU 16 (z,16) 1152921504606846976 4294967296 FU false 0 0=_ from h];exact⟨_,rfl⟩
theorem ad1(m:Nat)(z:ag)(hs:z.length≤10):∀(kk i:Nat),z.length-i<kk→i≤z.length→
  uD m z kk (i:Int)=cond ((z.drop i).all λb=>!qu (b.toNat:Int)) (some (.inr ())) (some (.inl (c0,false))):=by
 intro kk
 induction kk with
 |zero=>intro i h;omega
 |succ kk ih=>
  intro i h hi;by_cases h1:i<z.length
  ·have e:uD m z (kk+1) (i:Int)=cond (qu ((z[i].toNat:Nat):Int)) (some (.inl (c0,false))) (uD m z kk ((i+1:Nat):Int)):=by
    rw[uD,ct h1,aB,bR h1,Ri z i h1,lt_eq,lt_eq,lt_eq,bG (by omega)];rfl
   rw[e,ih (i+1) (by omega) (by omega),fv h1,List.all_cons];cases qu ((z[i].toNat:Nat):Int)<;>rfl
  ·rw[uD,cq (by omega),aG,gR (by omega)];rfl
theorem ad2(m:Nat)(s:ag)(hs:s.length≤10):∀(kk i:Nat)(a:ag),s.length-i<kk→i≤s.length→a.length≤2*i→G5 m s kk a (i:Int)=some (a++(s.drop i).flatMap λb=>[b,b]):=by
 intro kk
 induction kk with
 |zero=>intro i a h;omega
 |succ kk ih=>
  intro i a h hi ha;rw[G5];by_cases h1:i<s.length
  ·rw[ct h1,aB,bG (by omega),bz ⟨by omega,by omega,by unfold ln;omega⟩,acP h1,bz (by unfold ln;simp),lt_eq,bz (by unfold ln;simp only[ee,cN,dn];omega)];rw[ih (i+1) _ (by omega) (by omega) (by simp only[ee,cN,dn];omega),fv h1,List.flatMap_cons];simp only[mG];rfl
  ·rw[cq (by omega),aG,gR (by omega)];simp
def lD(s:ag):Bool:=s.all λb=>!qu (b.toNat:Int)
def gQ(s:ag):Bool:=cond (ln s==3) true (cond (ln s==4) true (cond (ln s==6) true (ln s==8)))&&lD s
theorem ad3{s:ag}(h:lD s=true):∀b∈s,qu (b.toNat:Int)=false:=λb hb=>by
 have:=List.all_eq_true.1 h b hb;simpa using this
theorem ad4(s:ag)(hs:s.length≤1048570):∃c,Kh FU s=some (c,gQ s):=by
 have key:∀z:ag,z.length≤1048576→∃c,(cond (ln z !=8) (some (be.mk 0 0 0 0,false)) (
   Option.bind (uD FU z FU 0) λ(z51:Sum (be×Bool) Unit)=>bK z51 λKi=>
   Option.bind (D3 FU z 16 32) λeX=>
   some (be.mk (bA (Int.fdiv eX (2^24))) (bA (Int.fdiv eX (2^16))) (bA (Int.fdiv eX (2^8))) (bA eX),true)):Option (be×Bool))=some (c,ln z==8&&lD z):=by
  intro z hz;by_cases h8:ln z=8
  ·rw[h8,bne_self_eq_false,aG,beq_self_eq_true,kR];have hl:z.length=8:=by unfold ln at h8;omega
   have h:=ad1 FU z (by omega) FU 0 (by unfold FU;omega) (fT _);rw[du]at h;rw[show uD FU z FU 0=_ from h];show∃c,Option.bind (cond (lD z) (some (Sum.inr ())) (some (Sum.inl (c0,false)))) _=some (c,lD z);cases hx:lD z
   ·exact⟨_,rfl⟩
   ·obtain⟨n,hn⟩:=ad0 z hl (ad3 hx);rw[hn];exact⟨_,rfl⟩
  ·rw[show(ln z !=8)=true from bne_iff_ne.2 h8,show(ln z==8)=false from bM.2 h8];exact⟨_,rfl⟩
 have k2:∀z:ag,z.length≤1048570→∃c,(Option.bind (cond (ln z==6) (au (ln z+ln ([102,102]:ag)≤9223372036854775807) (some (z++[102,102]))) (some z)) λ(eH:ag)=>
   cond (ln eH !=8) (some (be.mk 0 0 0 0,false)) (
   Option.bind (uD FU eH FU 0) λ(z51:Sum (be×Bool) Unit)=>bK z51 λKi=>
   Option.bind (D3 FU eH 16 32) λeX=>
   some (be.mk (bA (Int.fdiv eX (2^24))) (bA (Int.fdiv eX (2^16))) (bA (Int.fdiv eX (2^8))) (bA eX),true)):Option (be×Bool))=some (c,cond (ln z==6) true (ln z==8)&&lD z):=by
  intro z hz;cases h6:(ln z==6)
  ·rw[aG,aG,aF];exact key z (by omega)
  ·rw[aB,aB,bz (by unfold ln;simp only[cN,dn];omega),aF];obtain⟨c,h⟩:=key (z++[102,102]) (by simp only[ee,cN,dn];omega);have e8:(ln (z++[102,102])==8)=true:=by
    have:=eq_of_beq h6;unfold ln at this⊢;simp only[ee,cN,dn,beq_iff_eq];omega
   have ex:lD (z++[102,102])=lD z:=by
    unfold lD;rw[List.all_append,show(([102,102]:ag).all λb=>!qu (b.toNat:Int))=true from by decide,oF]
   rw[e8,ex]at h;exact⟨c,h⟩
 unfold Kh;by_cases HL:ln s=3∨ln s=4
 ·have hl:s.length≤10:=by unfold ln at HL;omega
  have hc:cond (ln s==3) true (ln s==4)=true:=by
   rcases HL with h|h<;>rw[h]<;>rfl
  have e1:=ad2 FU s hl FU 0 [] (by unfold FU;omega) (fT _) (fT _);rw[hc,aB,show G5 FU s FU [] 0=_ from e1];simp only[aF,du,List.nil_append];have fl:∀q:ag,(q.flatMap λb=>[b,b]).length=2*q.length:=by
   intro q
   induction q with
   |nil=>rfl
   |cons b r ih=>rw[List.flatMap_cons,ee,ih,cN,cN,cN,dn];omega
  have fx:∀q:ag,lD (q.flatMap λb=>[b,b])=lD q:=by
   intro q
   induction q with
   |nil=>rfl
   |cons b r ih=>
    unfold lD at ih⊢;rw[List.flatMap_cons,List.all_append,ih,List.all_cons];cases h:(!qu (b.toNat:Int))<;>simp[h]
  obtain⟨c,h⟩:=k2 (s.flatMap λb=>[b,b]) (by rw[fl];omega);rw[fx]at h;refine⟨c,h.trans ?_⟩;have e:cond (ln (s.flatMap λb=>[b,b])==6) true (ln (s.flatMap λb=>[b,b])==8)=true:=by
   have:ln (s.flatMap λb=>[b,b])=2*ln s:=by unfold ln;rw[fl];omega
   rw[this];rcases HL with h|h<;>rw[h]<;>rfl
  rw[e];unfold gQ;rcases HL with h|h<;>rw[h]<;>rfl
 ·have n3:(ln s==3)=false:=bM.2 (λh=>HL (Or.inl h));have n4:(ln s==4)=false:=bM.2 (λh=>HL (Or.inr h));rw[n3,n4,aG,aG,aF];obtain⟨c,h⟩:=k2 s hs;refine⟨c,h.trans ?_⟩;unfold gQ;rw[n3,n4,aG,aG]
def Ef(n:Int):Int:=(Hr FU n).getD 0
theorem ad5:((List.range 256).all λ(n:Nat)=>decide (Hr FU (n:Int)=some (Ef (n:Int)))&&decide (Ef (n:Int)<0)==qu (n:Int))=true:=by kernel_rfl
theorem ad6{n:Nat}(hn:n<256):Hr FU (n:Int)=some (Ef (n:Int))∧decide (Ef (n:Int)<0)=qu (n:Int):=by
 have h:=Pp ad5 hn;simp only[Bool.and_eq_true,decide_eq_true_eq,beq_iff_eq]at h;exact h
theorem ad7(s:ag)(hs:s.length≤1048576):∀(kk i:Nat)(d:List Int),s.length-i<kk→i≤s.length→d.length=cond (decide (ln s≤4)) (2*i) i→
  (lD (s.drop i)=false∧B2 FU s kk d (i:Int)=some (.inl (c0,false)))∨(lD (s.drop i)=true∧∃d',B2 FU s kk d (i:Int)=some (.inr d')∧d'.length=cond (decide (ln s≤4)) (2*s.length) s.length):=by
 intro kk
 induction kk with
 |zero=>intro i d h;omega
 |succ kk ih=>
  intro i d h hi hd;have hdl:d.length≤2*i:=by
   rw[hd];cases decide (ln s≤4)<;>simp only[aB,aG]<;>omega
  rw[B2];by_cases h1:i<s.length
  ·obtain⟨e1,e2⟩:=ad6 s[i].toNat_lt;have hx:lD (s.drop i)=((!qu (s[i].toNat:Int))&&lD (s.drop (i+1))):=by
    unfold lD;rw[fv h1,List.all_cons]
   rw[ct h1,aB,bR h1,Ri s i h1,e1,aF,e2,hx];cases hh:qu (s[i].toNat:Int)
   ·rw[aG,bz (by unfold ln;simp only[cN,dn];omega),lt_eq,gS,kR];cases h4:decide (ln s≤4)
    ·rw[h4]at hd;rw[aG,aF];dsimp only[bK];rw[bG (by omega)];have:=ih (i+1) (d++[Ef (s[i].toNat:Int)]) (by omega) (by omega) (by rw[h4,aG];rw[aG]at hd;simp only[ee,cN,dn];omega);rw[h4]at this;exact this
    ·rw[h4]at hd;rw[aB,bz (by unfold ln;simp only[ee,cN,dn];omega),lt_eq,aF];dsimp only[bK];rw[bG (by omega)];have:=ih (i+1) (d++[Ef (s[i].toNat:Int)]++[Ef (s[i].toNat:Int)]) (by omega) (by omega) (by rw[h4,aB];rw[aB]at hd;simp only[ee,cN,dn];omega);rw[h4]at this;exact this
   ·left;exact⟨rfl,rfl⟩
  ·right;rw[cq (by omega),aG,gR (by omega)];refine⟨rfl,d,rfl,?_⟩;have:i=s.length:=by omega
   rw[hd,this]
theorem ad8(z:List Int)(hz:z.length=8):∃q,E3 FU z FU 0 [0,0,0,0]=some q:=by
 have st:∀(kk i:Nat)(q:List Int),4-i<kk→i≤4→∃q',E3 FU z kk (i:Int) q=some q':=by
  intro kk
  induction kk with
  |zero=>intro i q h;omega
  |succ kk ih=>
   intro i q h hi;rw[E3];by_cases h1:i<4
   ·have w1:a8 (2*(i:Int))=((2*i:Nat):Int):=by rw[o5 (by omega) (by omega)];omega
    have w2:a8 (((2*i:Nat):Int)+1)=((2*i+1:Nat):Int):=bG (by omega);rw[cB (show(i:Int)<4 by omega),aB,w1,w2,bR (by omega),bR (by omega),lt_eq,bz ⟨by omega,by omega⟩,lt_eq,bG (by omega)];exact ih (i+1) _ (by omega) (by omega)
   ·rw[cv (by omega),aG];exact⟨_,rfl⟩
 exact st FU 0 _ (by unfold FU;omega) (by omega)
theorem ad9(s:ag)(hs:s.length≤1048570):∃c,Li FU s=some (c,gQ s):=by
 unfold Li;rcases ad7 s (by omega) FU 0 [] (by unfold FU;omega) (fT _) (by cases decide (ln s≤4)<;>rfl)with⟨hx,h⟩|⟨hx,d,h,hd⟩
 ·rw[du]at hx;rw[show B2 FU s FU [] 0=_ from h];unfold gQ;rw[hx,Bool.and_false];exact⟨_,rfl⟩
 ·rw[du]at hx;rw[show B2 FU s FU [] 0=_ from h];unfold gQ;rw[hx,oF,aF];dsimp only[bK];rw[lt_eq];have fin:∀z:List Int,z.length=8→∃c:be,(Option.bind (E3 FU z FU 0 [0,0,0,0]) λ(gC:List Int)=>
    au (0≤(0:Int)∧(0:Int)<(4:Int))<|au (0≤(1:Int)∧(1:Int)<(4:Int))<|au (0≤(2:Int)∧(2:Int)<(4:Int))<|au (0≤(3:Int)∧(3:Int)<(4:Int))<|
    some (be.mk (gi gC (0:Int)) (gi gC (1:Int)) (gi gC (2:Int)) (gi gC (3:Int)),true))=some (c,true):=by
   intro z hz;obtain⟨q,hq⟩:=ad8 z hz;rw[hq,aF,bz (by decide),bz (by decide),bz (by decide),bz (by decide)];exact⟨_,rfl⟩
  by_cases h3:ln s=3
  ·rw[h3]at hd⊢;have hl:d.length=6:=by
    have h5:d.length=2*s.length:=hd;unfold ln at h3;omega
   show∃c,Option.bind (cond (ln d==6) (au (ln d+ln ([15,15]:List Int)≤137438953472) (lt (d++([15,15]:List Int)) λvd=>some vd)) (some d)) _=some (c,true);rw[show(ln d==6)=true from by unfold ln;rw[hl];rfl,aB,bz (by unfold ln;rw[hl];decide),lt_eq,aF];exact fin _ (by simp only[ee,cN,dn];omega)
  by_cases h4:ln s=4
  ·rw[h4]at hd⊢;have hl:d.length=8:=by
    have h5:d.length=2*s.length:=hd;unfold ln at h4;omega
   show∃c,Option.bind (cond (ln d==6) (au (ln d+ln ([15,15]:List Int)≤137438953472) (lt (d++([15,15]:List Int)) λvd=>some vd)) (some d)) _=some (c,true);rw[show(ln d==6)=false from by unfold ln;rw[hl];rfl,aG,aF];exact fin _ hl
  by_cases h6:ln s=6
  ·rw[h6]at hd⊢;have hl:d.length=6:=by
    have h5:d.length=s.length:=hd;unfold ln at h6;omega
   show∃c,Option.bind (cond (ln d==6) (au (ln d+ln ([15,15]:List Int)≤137438953472) (lt (d++([15,15]:List Int)) λvd=>some vd)) (some d)) _=some (c,true);rw[show(ln d==6)=true from by unfold ln;rw[hl];rfl,aB,bz (by unfold ln;rw[hl];decide),lt_eq,aF];exact fin _ (by simp only[ee,cN,dn];omega)
  by_cases h8:ln s=8
  ·rw[h8]at hd⊢;have hl:d.length=8:=by
    have h5:d.length=s.length:=hd;unfold ln at h8;omega
   show∃c,Option.bind (cond (ln d==6) (au (ln d+ln ([15,15]:List Int)≤137438953472) (lt (d++([15,15]:List Int)) λvd=>some vd)) (some d)) _=some (c,true);rw[show(ln d==6)=false from by unfold ln;rw[hl];rfl,aG,aF];exact fin _ hl
  ·have n3:=bM.2 h3;have n4:=bM.2 h4;have n6:=bM.2 h6;have n8:=bM.2 h8;unfold bne;rw[n3,n4,n6,n8];exact⟨_,rfl⟩
def sy(t:bW):Nat:=cond (t.a7==10) 0 (cond (t.a7==18) 1 (cond (cond (t.a7==9) (t.bU==[47]) false) 2 3))
def yG(v:aj):Bool:=!(v.ay.a7==13)
def sys(l:List aj):List Nat:=(l.filter yG).map λv=>sy v.ay
def tu:Nat→UInt8
 |0=>110
 |1=>44
 |2=>47
 |_=>120
def chI(b:UInt8):Nat:=cond (b==110) 0 (cond (b==44) 1 (cond (b==47) 2 3))
def yH(s:List Nat):Bool:=s==[0,0,0]||s==[0,1,0,1,0]||s==[0,0,0,2,0]||s==[0,1,0,1,0,1,0]
theorem ada(t:bW):sy t≤3:=by
 unfold sy;cases(t.a7==10)<;>cases(t.a7==18)<;>cases(cond (t.a7==9) (t.bU==[47]) false)<;>decide
theorem Pt(l:List aj):∀x∈sys l,x≤3:=by
 intro x hx;obtain⟨v,_,rfl⟩:=List.mem_map.1 hx;exact ada _
theorem adb{x:Nat}(h:x≤3):chI (tu x)=x:=by
 obtain rfl|rfl|rfl|rfl:x=0∨x=1∨x=2∨x=3:=by omega
 all_goals rfl
theorem Pu(s w:List Nat)(hs:∀x∈s,x≤3)(hw:∀x∈w,x≤3):(s.map tu==w.map tu)=(s==w):=by
 have back:∀q:List Nat,(∀x∈q,x≤3)→(q.map tu).map chI=q:=by
  intro q hq;rw[List.map_map]
  conv=>rhs;rw[←List.map_id q]
  exact List.map_congr_left λx hx=>adb (hq x hx)
 by_cases h:s=w
 ·subst h;rw[beq_self_eq_true,beq_self_eq_true]
 ·rw[show(s==w)=false from bM.2 h];refine bM.2 λe=>h ?_;rw[←back s hs,e,back w hw]
theorem ade{l:List aj}{i:Nat}(h:i<l.length):sys (l.drop i)=cond ((gi l (i:Int)).ay.a7==13) (sys (l.drop (i+1))) (sy (gi l (i:Int)).ay::sys (l.drop (i+1))):=by
 unfold sys;rw[fv h,List.filter_cons,fh l i h];unfold yG;cases(l[i].ay.a7==13)<;>rfl
def cn(s:ag):Nat:=s.countP λb=>b==110
theorem a0S(a:ag)(b:UInt8):cn (a++[b])=cn a+cond (b==110) 1 0:=by
 unfold cn;rw[List.countP_append];cases h:(b==110)<;>simp[List.countP_cons,h]
theorem adf(t:bW)(u:ag)(l:List Int)(hu:u.length≤1048576)(hl:l.length=cn u):∃l',Kj t u l=some (cond (t.a7==13) u (u++[tu (sy t)]),l')∧l'.length=cn (cond (t.a7==13) u (u++[tu (sy t)])):=by
 have hcu:cn u≤u.length:=List.countP_le_length;have no:∀b:UInt8,(b==110)=false→l.length=cn (u++[b]):=λb h=>by rw[a0S,h,hl];rfl
 unfold Kj sy;have ck:∀{α:Type}(b:α),ln u+ln [b]≤9223372036854775807:=λb=>by unfold ln;simp only[cN,dn];omega
 cases(t.a7==13)
 ·rw[aG,aG];cases(t.a7==10)
  ·rw[aG];cases(t.a7==18)
   ·rw[aG,lt_eq];cases(cond (t.a7==9) (t.bU==[47]) false)
    ·rw[aG,bz (ck _)];exact⟨_,rfl,no 120 rfl⟩
    ·rw[aB,bz (ck _)];exact⟨_,rfl,no 47 rfl⟩
   ·rw[aB,bz (ck _)];exact⟨_,rfl,no 44 rfl⟩
  ·rw[aB,bz (ck _),bz (by unfold ln;simp only[cN,dn];omega),lt_eq];refine⟨_,rfl,?_⟩;show(l++[t.bj]).length=cn (u++[110]);rw[a0S,ee,hl];rfl
 ·exact⟨_,rfl,hl⟩
theorem adg(m:Nat)(l:List aj)(hl:l.length≤1048576):∀(kk i:Nat)(ns:List Int)(u:ag),l.length-i<kk→i≤l.length→u.length≤i→ns.length=cn u→
  ∃Eg,G7 m l kk (i:Int) ns u=some (u++(sys (l.drop i)).map tu,Eg)∧Eg.length=cn (u++(sys (l.drop i)).map tu):=by
 intro kk
 induction kk with
 |zero=>intro i ns u h;omega
 |succ kk ih=>
  intro i ns u h hi hu hn;rw[G7];by_cases h1:i<l.length
  ·obtain⟨l',e1,e3⟩:=adf (gi l (i:Int)).ay u ns (by omega) hn;rw[ct h1,aB,bR h1,e1,aF,bG (by omega),ade h1];dsimp only;obtain⟨Eg,h2,h3⟩:=ih (i+1) l' _ (by omega) (by omega) (by cases((gi l (i:Int)).ay.a7==13)<;>simp only[aB,aG,ee,cN,dn]<;>omega) e3;refine⟨Eg,h2.trans ?_,h3.trans ?_⟩
   ·cases((gi l (i:Int)).ay.a7==13)
    ·rw[aG,aG,List.map_cons,mG];rfl
    ·rfl
   ·cases((gi l (i:Int)).ay.a7==13)
    ·rw[aG,aG,List.map_cons,mG];rfl
    ·rfl
  ·rw[cq (by omega),aG,gR (by omega)];exact⟨ns,by simp[sys],by simpa[sys]using hn⟩
theorem Vn(u:List Int)(i:Nat)(hi:i<u.length):∃x,sj (i:Int) u=some (bA x):=by
 unfold sj;rw[bR hi,lt_eq];exact⟨_,rfl⟩
theorem adh(l:List aj)(hl:l.length≤1048576):∃c,Kk FU l=some (c,yH (sys l)):=by
 obtain⟨ns,h1,h2⟩:=adg FU l hl FU 0 [] [] (by unfold FU;omega) (fT _) (fT _) rfl;rw[du,List.nil_append]at h1 h2;have fin:∀q:List Int,q.length=4→∃c,(Option.bind (sj 0 q) λuE=>
   Option.bind (sj 1 q) λuF=>
   Option.bind (sj 2 q) λuG=>
   au (0≤(3:Int)∧(3:Int)<ln q)<|
   lt (if(gi q (3:Int))<1000 then(gi q (3:Int))else 1000) λp5=>
   lt (a8 (Int.tdiv (a8 ((if 0<p5 then p5 else 0)*255)) 1000)) λmV=>
   some (be.mk uE uF uG (bA mV),true))=some (c,true):=by
  intro q hq;obtain⟨a,ha⟩:=Vn q 0 (by omega);obtain⟨b,hb⟩:=Vn q 1 (by omega);obtain⟨c,hc⟩:=Vn q 2 (by omega);rw[show sj 0 q=_ from ha,aF,show sj 1 q=_ from hb,aF,show sj 2 q=_ from hc,aF,bz ⟨by decide,by unfold ln;omega⟩,lt_eq,lt_eq];exact⟨_,rfl⟩
 have e1:((sys l).map tu==[110,110,110])=(sys l==[0,0,0]):=Pu (sys l) [0,0,0] (Pt l) (by decide);have e2:((sys l).map tu==[110,44,110,44,110])=(sys l==[0,1,0,1,0]):=Pu (sys l) [0,1,0,1,0] (Pt l) (by decide);have e3:((sys l).map tu==[110,110,110,47,110])=(sys l==[0,0,0,2,0]):=Pu (sys l) [0,0,0,2,0] (Pt l) (by decide);have e4:((sys l).map tu==[110,44,110,44,110,44,110])=(sys l==[0,1,0,1,0,1,0]):=Pu (sys l) [0,1,0,1,0,1,0] (Pt l) (by decide);unfold Kk;rw[show G7 FU l FU 0 [] []=_ from h1,aF];dsimp only;rw[lt_eq,lt_eq,e1,e2,e3,e4];have three:(cond (sys l==[0,0,0]) (some (sys l==[0,0,0])) (some (sys l==[0,1,0,1,0])):Option Bool)=some (sys l==[0,0,0]||sys l==[0,1,0,1,0]):=by
  cases(sys l==[0,0,0])<;>rfl
 have four:(cond (sys l==[0,0,0,2,0]) (some (sys l==[0,0,0,2,0])) (some (sys l==[0,1,0,1,0,1,0])):Option Bool)=some (sys l==[0,0,0,2,0]||sys l==[0,1,0,1,0,1,0]):=by
  cases(sys l==[0,0,0,2,0])<;>rfl
 rw[three,aF,four];unfold yH;cases h3:(sys l==[0,0,0]||sys l==[0,1,0,1,0])
 ·rw[aG,aF,o7];cases h4:(sys l==[0,0,0,2,0])
  ·rw[o7];cases h5:(sys l==[0,1,0,1,0,1,0])
   ·exact⟨_,rfl⟩
   ·rw[aB,aF];exact fin ns (by rw[h2,eq_of_beq h5];rfl)
  ·rw[Bool.true_or,aB,aF];exact fin ns (by rw[h2,eq_of_beq h4];rfl)
 ·have hl3:ns.length=3:=by
   rcases Bool.or_eq_true _ _|>.mp h3 with h|h
   ·rw[h2,eq_of_beq h];rfl
   ·rw[h2,eq_of_beq h];rfl
  rw[aB,bz (by unfold ln;simp only[cN,dn];omega),aF,Bool.true_or,Bool.true_or];exact fin (ns++[1000]) (by simp only[ee,cN,dn];omega)
theorem adi(l:List aj)(hl:l.length≤1048576):Ll FU l=some (l.filter yG):=by
 have st:∀(kk i:Nat)(v:List aj),l.length-i<kk→i≤l.length→v.length≤i→Ht FU l kk v (i:Int)=some (v++(l.drop i).filter yG):=by
  intro kk
  induction kk with
  |zero=>intro i v h;omega
  |succ kk ih=>
   intro i v h hi hv;rw[Ht];by_cases h1:i<l.length
   ·rw[ct h1,aB,bR h1,fv h1,List.filter_cons,fh l i h1];unfold bne;have hn:yG l[i]=!(l[i].ay.a7==13):=rfl;rw[hn];cases(l[i].ay.a7==13)
    ·rw[gS,aB,bz (by unfold ln;simp only[cN,dn];omega),lt_eq,aF,bG (by omega),ih (i+1) _ (by omega) (by omega) (by simp only[ee,cN,dn];omega),mG];rfl
    ·rw[fL,aG,aF,bG (by omega),ih (i+1) v (by omega) (by omega) (by omega)];rfl
   ·rw[cq (by omega),aG,gR (by omega),List.filter_nil,List.append_nil]
 unfold Ll;rw[show Ht FU l FU [] 0=_ from st FU 0 [] (by unfold FU;omega) (fT _) (fT _)];rfl
def qv:List Nat→Nat→List Int→Int→Option (Nat×List Int×Int)
 |[],c,b,k=>some (c,b,k)
 |s::r,c,b,k=>cond (s==0) (qv r (c+1) (cond (decide (0<c)) (b++[k]) b) 0) (cond (cond (k !=0) true (c==0)) none (cond (s==1) (qv r c b 1) (cond (s==2) (qv r c b 2) none)))
theorem adj(y:List aj)(hy:y.length≤1048576):∀(kk i:Nat)(ns b:List Int)(k:Int),y.length-i<kk→i≤y.length→ns.length≤i→b.length≤i→
  (qv ((y.drop i).map λv=>sy v.ay) ns.length b k=none∧yE FU y kk ns b k (i:Int)=some (.inl (c0,false)))∨
  (∃c b' k' Eg,qv ((y.drop i).map λv=>sy v.ay) ns.length b k=some (c,b',k')∧yE FU y kk ns b k (i:Int)=some (.inr (Eg,b',k'))∧Eg.length=c):=by
 intro kk
 induction kk with
 |zero=>intro i ns b k h;omega
 |succ kk ih=>
  intro i ns b k h hi hn hb;rw[yE];by_cases h1:i<y.length
  ·rw[ct h1,aB,bR h1,fv h1,List.map_cons,qv,fh y i h1];have hnz:decide (0<ln ns)=decide (0<ns.length):=by unfold ln;exact decide_eq_decide.2 (by omega)
   have MJ:(ln ns==0)=(ns.length==0):=by
    cases ns with
    |nil=>rfl
    |cons x r=>rw[show((x::r).length==0)=false from rfl];exact bM.2 (by unfold ln;simp only[cN];omega)
   rw[hnz,MJ];unfold sy;cases(y[i].ay.a7==10)
   ·simp only[aG];cases hq:(cond (k !=0) true (ns.length==0))
    ·simp only[aG];cases(y[i].ay.a7==18)
     ·simp only[aG,lt_eq];cases(cond (y[i].ay.a7==9) (y[i].ay.bU==[47]) false)
      ·left;exact⟨rfl,rfl⟩
      ·simp only[aB,aF,bK];rw[bG (by omega)];have:=ih (i+1) ns b 2 (by omega) (by omega) (by omega) (by omega);exact this
     ·simp only[aB,aF,bK];rw[bG (by omega)];have:=ih (i+1) ns b 1 (by omega) (by omega) (by omega) (by omega);exact this
    ·left;refine⟨?_,rfl⟩;cases(y[i].ay.a7==18)<;>cases(cond (y[i].ay.a7==9) (y[i].ay.bU==[47]) false)<;>rfl
   ·simp only[aB];have xj:(cond (decide (0<ns.length)) (au (ln b+ln ([k]:List Int)≤137438953472) (lt (b++([k]:List Int)) λLm=>some Lm)) (some b):Option (List Int))=some (cond (decide (0<ns.length)) (b++[k]) b):=by
     cases decide (0<ns.length)
     ·rfl
     ·rw[aB,bz (by unfold ln;simp only[cN,dn];omega)];rfl
    rw[xj,aF,bz (by unfold ln;simp only[cN,dn];omega),lt_eq,aF];simp only[bK];rw[bG (by omega)];have:=ih (i+1) (ns++[y[i].ay.bj]) (cond (decide (0<ns.length)) (b++[k]) b) 0 (by omega) (by omega) (by simp only[ee,cN,dn];omega) (by cases decide (0<ns.length)<;>simp only[aB,aG,ee,cN,dn]<;>omega);rw[show(ns++[y[i].ay.bj]).length=ns.length+1 from by simp]at this;exact this
  ·right;rw[cq (by omega),aG,gR (by omega)];exact⟨_,_,_,_,rfl,rfl,rfl⟩
def sp(x:Int):List Nat:=cond (x==0) [] [x.toNat]
def bl(b:List Int):List Nat:=b.flatMap λx=>sp x++[0]
def Eh(c:Nat)(b:List Int)(k:Int):List Nat:=cond (c==0) [] (0::bl b)++sp k
def inv(c:Nat)(b:List Int)(k:Int):Prop:=(b.length+1=c∨(c=0∧b=[]∧k=0))∧(∀x∈b,x=0∨x=1∨x=2)∧(k=0∨k=1∨k=2)
theorem LQ:∀(s:List Nat)(c:Nat)(b:List Int)(k:Int),inv c b k→∀c' b' k',qv s c b k=some (c',b',k')→inv c' b' k'∧Eh c b k++s=Eh c' b' k'
 |[],c,b,k,hi,c',b',k',h=>by
  cases h;exact⟨hi,List.append_nil _⟩
 |s::r,c,b,k,hi,c',b',k',h=>by
  rw[qv]at h;cases h0:(s==0)
  ·rw[h0,aG]at h;cases hq:(cond (k !=0) true (c==0))
   ·rw[hq,aG]at h;have hk:k=0:=by
     by_cases e:k=0
     ·exact e
     ·rw[show(k !=0)=true from bne_iff_ne.2 e]at hq;cases hq
    have hc:(c==0)=false:=by
     rw[hk]at hq;exact hq
    have hcn:c≠0:=bM.1 hc;have qJ:b.length+1=c:=by
     rcases hi.1 with h|h
     ·exact h
     ·exact absurd h.1 hcn
    subst hk;have go:∀q:Int,(q=1∨q=2)→qv r c b q=some (c',b',k')→inv c' b' k'∧Eh c b 0++(q.toNat::r)=Eh c' b' k':=by
     intro q Pv hm;have:=LQ r c b q ⟨Or.inl qJ,hi.2.1,Or.inr Pv⟩ c' b' k' hm;refine⟨this.1,?_⟩;rw[←this.2];have hs:sp q=[q.toNat]:=by rcases Pv with h|h<;>subst h<;>rfl
     unfold Eh;rw[hs,mG,mG];rfl
    cases h1:(s==1)
    ·rw[h1,aG]at h;cases h2:(s==2)
     ·rw[h2]at h;cases h
     ·rw[h2,aB]at h;have e:s=2:=eq_of_beq h2;subst e;exact go 2 (Or.inr rfl) h
    ·rw[h1,aB]at h;have e:s=1:=eq_of_beq h1;subst e;exact go 1 (Or.inl rfl) h
   ·rw[hq]at h;cases h
  ·rw[h0,aB]at h;have e:s=0:=eq_of_beq h0;subst e;by_cases hc:0<c
   ·rw[cB hc,aB]at h;have qJ:b.length+1=c:=by
     rcases hi.1 with h|h
     ·exact h
     ·omega
    have:=LQ r (c+1) (b++[k]) 0 ⟨Or.inl (by simp only[ee,cN,dn];omega),λx hx=>by
     rcases List.mem_append.1 hx with h|h
     ·exact hi.2.1 x h
     ·rw[List.mem_singleton.1 h];exact hi.2.2,Or.inl rfl⟩ c' b' k' h
    refine⟨this.1,?_⟩;rw[←this.2];unfold Eh bl;rw[show(c==0)=false from bM.2 (by omega),show(c+1==0)=false from rfl,aG,aG,List.flatMap_append];simp[sp]
   ·have hc0:c=0:=by omega
    subst hc0;rw[cv hc,aG]at h;obtain⟨hb,hk⟩:b=[]∧k=0:=by
     rcases hi.1 with h|h
     ·omega
     ·exact h.2
    subst hb hk;have:=LQ r (0+1) [] 0 ⟨Or.inl rfl,λx hx=>(by cases hx),Or.inl rfl⟩ c' b' k' h;exact⟨this.1,by rw[←this.2];rfl⟩
def acc(c:Nat)(b:List Int)(k:Int):Bool:=k==0&&cond (c==3) (b==[0,0]||b==[1,1]) (cond (c==4) (b==[0,0,2]||b==[1,1,1]) false)
theorem adk(s:List Nat):(qv s 0 [] 0=none→yH s=false)∧∀c b k,qv s 0 [] 0=some (c,b,k)→yH s=acc c b k:=by
 have a0T:∀s,yH s=true→qv s 0 [] 0=some (3,[0,0],0)∨qv s 0 [] 0=some (3,[1,1],0)∨qv s 0 [] 0=some (4,[0,0,2],0)∨qv s 0 [] 0=some (4,[1,1,1],0):=by
  intro s h;unfold yH at h;simp only[Bool.or_eq_true,beq_iff_eq]at h;rcases h with((h|h)|h)|h<;>subst h
  ·exact Or.inl rfl
  ·exact Or.inr (Or.inl rfl)
  ·exact Or.inr (Or.inr (Or.inl rfl))
  ·exact Or.inr (Or.inr (Or.inr rfl))
 refine⟨λh=>?_,λc b k h=>?_⟩
 ·cases hr:yH s
  ·rfl
  ·rcases a0T s hr with h1|h1|h1|h1<;>rw[h]at h1<;>cases h1
 ·cases ha:acc c b k
  ·cases hr:yH s
   ·rfl
   ·rcases a0T s hr with h1|h1|h1|h1<;>(rw[h]at h1;cases h1;cases ha)
  ·have hi:=(LQ s 0 [] 0 ⟨Or.inr ⟨rfl,rfl,rfl⟩,λx hx=>(by cases hx),Or.inl rfl⟩ c b k h).2;have hs:s=Eh c b k:=hi;unfold acc at ha;simp only[Bool.and_eq_true,beq_iff_eq]at ha;obtain⟨hk,ha⟩:=ha;subst hk;cases h3:(c==3)
   ·rw[h3,aG]at ha;cases h4:(c==4)
    ·rw[h4]at ha;cases ha
    ·rw[h4,aB]at ha;have e:=eq_of_beq h4;subst e;simp only[Bool.or_eq_true,beq_iff_eq]at ha;rcases ha with h|h<;>subst h<;>rw[hs]<;>rfl
   ·rw[h3,aB]at ha;have e:=eq_of_beq h3;subst e;simp only[Bool.or_eq_true,beq_iff_eq]at ha;rcases ha with h|h<;>subst h<;>rw[hs]<;>rfl
theorem a0U(z:List Int×List Int×Int)(hz:3≤z.1.length):∃q,B4 FU z FU 0 [0,0,0]=some q:=by
 have st:∀(kk i:Nat)(q:List Int),3-i<kk→i≤3→∃q',B4 FU z kk (i:Int) q=some q':=by
  intro kk
  induction kk with
  |zero=>intro i q h;omega
  |succ kk ih=>
   intro i q h hi;rw[B4];by_cases h1:i<3
   ·rw[cB (show(i:Int)<3 by omega),aB,bR (by omega),lt_eq,bz ⟨by omega,by omega⟩,lt_eq,bG (by omega)];exact ih (i+1) _ (by omega) (by omega)
   ·rw[cv (by omega),aG];exact⟨_,rfl⟩
 exact st FU 0 _ (by unfold FU;omega) (by omega)
theorem two(b:List Int)(x y:Int)(h:b=[x,y])(hx:x=0∨x=1∨x=2)(hy:y=0∨y=1∨y=2):cond (x==2) true (y !=x)=!(b==[0,0]||b==[1,1]):=by
 subst h;rcases hx with rfl|rfl|rfl<;>rcases hy with rfl|rfl|rfl<;>rfl
theorem adl(z:List Int×List Int×Int)(q:List Int)(hq:B4 FU z FU 0 [0,0,0]=some q)(s:Int):∃c,(Option.bind (B4 FU z FU 0 [0,0,0]) λ(mv:List Int)=>
  au (0≤(0:Int)∧(0:Int)<(3:Int))<|au (0≤(1:Int)∧(1:Int)<(3:Int))<|au (0≤(2:Int)∧(2:Int)<(3:Int))<|
  lt (bA (a8 (Int.tdiv (a8 (s*255)) 1000))) λHv=>some (be.mk (gi mv (0:Int)) (gi mv (1:Int)) (gi mv (2:Int)) Hv,true))=some (c,true):=by
 rw[hq,aF,bz (by decide),bz (by decide),bz (by decide),lt_eq];exact⟨_,rfl⟩
theorem adm(l:List aj)(hl:l.length≤1048576):∃c,Lq FU l=some (c,yH (sys l)):=by
 have tN:(l.filter yG).length≤1048576:=Nat.le_trans (List.length_filter_le _ _) hl;have ha:=adk (sys l);unfold Lq;rw[adi l hl,aF];rcases adj (l.filter yG) tN FU 0 [] [] 0 (by unfold FU;omega) (fT _) (fT _) (fT _)with⟨hm,h⟩|⟨c,b,k,ns,hm,h,hc⟩
 ·rw[du]at hm;rw[show yE FU (l.filter yG) FU [] [] 0 0=_ from h,ha.1 hm];exact⟨_,rfl⟩
 ·rw[du]at hm;rw[show yE FU (l.filter yG) FU [] [] 0 0=_ from h,ha.2 c b k hm,aF];have hi:=(LQ (sys l) 0 [] 0 ⟨Or.inr ⟨rfl,rfl,rfl⟩,λx hx=>(by cases hx),Or.inl rfl⟩ c b k hm).1;clear h hm ha;subst hc;dsimp only[bK];rw[lt_eq];by_cases hk:k=0
  rotate_left
  ·unfold acc;rw[show(k==0)=false from bM.2 hk,show(k !=0)=true from bne_iff_ne.2 hk];exact⟨_,rfl⟩
  subst hk;have n3:(ln ns !=3)=!(ns.length==3):=by
   by_cases e:ns.length=3
   ·rw[show(ns.length==3)=true from beq_iff_eq.2 e];exact bne_eq_false_iff_eq.2 (by unfold ln;omega)
   ·rw[show(ns.length==3)=false from bM.2 e];exact bne_iff_ne.2 (by unfold ln;omega)
  have n4:(ln ns !=4)=!(ns.length==4):=by
   by_cases e:ns.length=4
   ·rw[show(ns.length==4)=true from beq_iff_eq.2 e];exact bne_eq_false_iff_eq.2 (by unfold ln;omega)
   ·rw[show(ns.length==4)=false from bM.2 e];exact bne_iff_ne.2 (by unfold ln;omega)
  have n4e:(ln ns==4)=(ns.length==4):=by
   have:=n4;unfold bne at this;cases h1:(ln ns==4)<;>cases h2:(ns.length==4)<;>rw[h1,h2]at this<;>first|rfl|cases this
  rw[n3,n4,n4e];unfold acc;by_cases e3:ns.length=3
  ·have xj:b.length=2:=by rcases hi.1 with h|h<;>omega
   obtain⟨x,y,hb⟩:∃x y,b=[x,y]:=by
    match b,xj with
    |[x,y],_=>exact⟨x,y,rfl⟩
   have hx:=hi.2.1 x (by rw[hb];simp);have hy:=hi.2.1 y (by rw[hb];simp);have ht:=two b x y hb hx hy;obtain⟨q,hq⟩:=a0U (ns,b,0) (by dsimp only;omega);rw[e3];subst hb;rw[show((3:Nat)==3)=true from rfl,show((3:Nat)==4)=false from rfl];simp only[fL,gS,aB,aG,bne_self_eq_false,beq_self_eq_true,kR];rw[bz (λ_=>⟨by decide,by unfold ln;simp⟩),lt_eq,bz (λ_=>⟨by decide,by unfold ln;simp⟩),bz (λ_=>⟨by decide,by unfold ln;simp⟩),lt_eq];show∃c,cond (cond (x==2) true (y !=x)) _ _=some (c,_);rw[ht];cases([x,y]==[0,0]||[x,y]==[1,1])
   ·exact⟨_,rfl⟩
   ·rw[fL,aG,aF];dsimp only;rw[hq,aF,bz (by decide),bz (by decide),bz (by decide),lt_eq];exact⟨_,rfl⟩
  by_cases e4:ns.length=4
  ·have xj:b.length=3:=by rcases hi.1 with h|h<;>omega
   obtain⟨x,y,z,hb⟩:∃x y z,b=[x,y,z]:=by
    match b,xj with
    |[x,y,z],_=>exact⟨x,y,z,rfl⟩
   have hx:=hi.2.1 x (by rw[hb];simp);have hy:=hi.2.1 y (by rw[hb];simp);have hz:=hi.2.1 z (by rw[hb];simp);obtain⟨q,hq⟩:=a0U (ns,b,0) (by dsimp only;omega);have hl4:3<ln ns:=by unfold ln;omega
   rw[e4];subst hb;rw[show((4:Nat)==3)=false from rfl,show((4:Nat)==4)=true from rfl];simp only[fL,gS,aB,aG,bne_self_eq_false,beq_self_eq_true,kR];rw[bz (λ_=>⟨by decide,by unfold ln;simp⟩),lt_eq,bz (λ_=>⟨by decide,by unfold ln;simp⟩),bz (λ_=>⟨by decide,by unfold ln;simp⟩),lt_eq,bz ⟨by decide,by unfold ln;simp⟩,bz (λ_=>⟨by decide,by unfold ln;simp⟩),lt_eq,bz (λ_ _=>⟨by decide,by unfold ln;simp⟩),lt_eq,bz ⟨by decide,hl4⟩];rcases hx with rfl|rfl|rfl<;>rcases hy with rfl|rfl|rfl<;>rcases hz with rfl|rfl|rfl<;>first|exact⟨_,rfl⟩|exact adl _ _ hq _
  ·rw[show(ns.length==3)=false from bM.2 e3,show(ns.length==4)=false from bM.2 e4];exact⟨_,rfl⟩
theorem LR(n L:Int)(hL:0<L):(n==if-L<if n<L then n else L then if n<L then n else L else-L)=!(cond (decide (L<n)) true (decide (n< -L))):=by
 by_cases h1:n<L
 ·rw[if_pos h1,cv (show¬L<n from by omega)];by_cases h2:-L<n
  ·rw[if_pos h2,cv (show¬n< -L from by omega)];simp
  ·rw[if_neg h2];by_cases h3:n< -L
   ·rw[cB h3,bM.2 (show n≠-L from by omega)];rfl
   ·rw[cv h3,show n=-L from by omega];simp
 ·rw[if_neg h1];by_cases h3:L<n
  ·rw[cB h3,if_pos (show-L<L from by omega),bM.2 (show n≠L from by omega)];rfl
  ·rw[cv h3,if_pos (show-L<L from by omega),cv (show¬n< -L from by omega),show n=L from by omega];simp
theorem Vo(n L:Int)(hL:0<L)(h:(n==0)=true):decide (L<n)=false∧decide (n< -L)=false:=by
 have:n=0:=by simpa using h
 subst this;exact⟨cv (by omega),cv (by omega)⟩
theorem Ba:a8 (0-1000000000000)=-1000000000000:=by decide
theorem a0V:a8 (-1000000000000)=-1000000000000:=by decide
theorem w9:a8 (0-1000000000)=-1000000000:=by decide
theorem w9':a8 (Int.tdiv 1000000000000 1000)=1000000000:=by decide
theorem adn(v:aW):ym v=yD v:=by
 obtain⟨k,w,n,⟨r,g,b,a⟩⟩:=v;unfold ym yD;simp only[w9'];by_cases h1:k=1
 ·subst h1;cases hn:(n==0)
  ·simp only[show((1:Int)==2)=false from rfl,show((1:Int)==3)=false from rfl,show((1:Int)==4)=false from rfl,show((1:Int)==5)=false from rfl,show((1:Int)==6)=false from rfl,show((1:Int)==7)=false from rfl,show((1:Int)==8)=false from rfl,bK,aF,beq_self_eq_true,aB,aG,kR,oF,lt,hn];cases hw:(w==([]:ag))<;>simp[hn,a0V]
  ·obtain⟨z1,z2⟩:=Vo n 1000000000000 (by decide) hn;simp only[show((1:Int)==2)=false from rfl,show((1:Int)==3)=false from rfl,show((1:Int)==4)=false from rfl,show((1:Int)==5)=false from rfl,show((1:Int)==6)=false from rfl,show((1:Int)==7)=false from rfl,show((1:Int)==8)=false from rfl,bK,aF,beq_self_eq_true,aB,aG,kR,oF,lt,hn];cases hw:(w==([]:ag))<;>simp[hn,z1,z2,a0V]
 by_cases h2:k=2
 ·subst h2;clear h1;simp only[show((2:Int)==1)=false from rfl,show((2:Int)==3)=false from rfl,show((2:Int)==4)=false from rfl,show((2:Int)==5)=false from rfl,show((2:Int)==6)=false from rfl,show((2:Int)==7)=false from rfl,show((2:Int)==8)=false from rfl,bK,aF,beq_self_eq_true,aB,aG,kR,oF,lt,Ba];rw[LR n _ (by decide)];generalize(w==[])=x;generalize decide (1000000000000<n)=p;generalize decide (n< -1000000000000)=q;generalize(r==0&&(g==0&&(b==0&&a==0)))=y;cases x<;>cases y<;>cases p<;>cases q<;>rfl
 by_cases h3:k=3
 ·subst h3;clear h1 h2;simp only[show((3:Int)==1)=false from rfl,show((3:Int)==2)=false from rfl,show((3:Int)==4)=false from rfl,show((3:Int)==5)=false from rfl,show((3:Int)==6)=false from rfl,show((3:Int)==7)=false from rfl,show((3:Int)==8)=false from rfl,bK,aF,beq_self_eq_true,aB,aG,kR,oF,lt,Ba];rw[LR n _ (by decide)];generalize(w==[])=x;generalize decide (1000000000000<n)=p;generalize decide (n< -1000000000000)=q;generalize(r==0&&(g==0&&(b==0&&a==0)))=y;cases x<;>cases y<;>cases p<;>cases q<;>rfl
 by_cases h4:k=4
 ·subst h4;clear h1 h2 h3;simp only[show((4:Int)==1)=false from rfl,show((4:Int)==2)=false from rfl,show((4:Int)==3)=false from rfl,show((4:Int)==5)=false from rfl,show((4:Int)==6)=false from rfl,show((4:Int)==7)=false from rfl,show((4:Int)==8)=false from rfl,bK,aF,beq_self_eq_true,aB,aG,kR,oF,lt,Ba];rw[LR n _ (by decide)];generalize(w==[])=x;generalize decide (1000000000000<n)=p;generalize decide (n< -1000000000000)=q;generalize(r==0&&(g==0&&(b==0&&a==0)))=y;cases x<;>cases y<;>cases p<;>cases q<;>rfl
 by_cases h5:k=5
 ·subst h5;clear h1 h2 h3 h4;simp only[show((5:Int)==1)=false from rfl,show((5:Int)==2)=false from rfl,show((5:Int)==3)=false from rfl,show((5:Int)==4)=false from rfl,show((5:Int)==6)=false from rfl,show((5:Int)==7)=false from rfl,show((5:Int)==8)=false from rfl,bK,aF,beq_self_eq_true,aB,aG,kR,oF,lt,Ba];rw[LR n _ (by decide)];generalize(w==[])=x;generalize decide (1000000000000<n)=p;generalize decide (n< -1000000000000)=q;generalize(r==0&&(g==0&&(b==0&&a==0)))=y;cases x<;>cases y<;>cases p<;>cases q<;>rfl
 by_cases h6:k=6
 ·subst h6;clear h1 h2 h3 h4 h5;simp only[show((6:Int)==1)=false from rfl,show((6:Int)==2)=false from rfl,show((6:Int)==3)=false from rfl,show((6:Int)==4)=false from rfl,show((6:Int)==5)=false from rfl,show((6:Int)==7)=false from rfl,show((6:Int)==8)=false from rfl,bK,aF,beq_self_eq_true,aB,aG,kR,oF,lt,w9];rw[LR n _ (by decide)];generalize(w==[])=x;generalize decide (1000000000<n)=p;generalize decide (n< -1000000000)=q;generalize(r==0&&(g==0&&(b==0&&a==0)))=y;cases x<;>cases y<;>cases p<;>cases q<;>rfl
 by_cases h7:k=7
 ·subst h7;clear h1 h2 h3 h4 h5 h6;cases hn:(n==0)
  ·simp only[show((7:Int)==1)=false from rfl,show((7:Int)==2)=false from rfl,show((7:Int)==3)=false from rfl,show((7:Int)==4)=false from rfl,show((7:Int)==5)=false from rfl,show((7:Int)==6)=false from rfl,show((7:Int)==8)=false from rfl,bK,aF,beq_self_eq_true,aB,aG,kR,oF,lt,Ba,hn];cases hw:(w==([]:ag))<;>simp[]
  ·obtain⟨z1,z2⟩:=Vo n 1000000000000 (by decide) hn;simp only[show((7:Int)==1)=false from rfl,show((7:Int)==2)=false from rfl,show((7:Int)==3)=false from rfl,show((7:Int)==4)=false from rfl,show((7:Int)==5)=false from rfl,show((7:Int)==6)=false from rfl,show((7:Int)==8)=false from rfl,bK,aF,beq_self_eq_true,aB,aG,kR,oF,lt,Ba,hn,z1,z2];cases hw:(w==([]:ag))<;>simp[]
 by_cases h8:k=8
 ·subst h8;clear h1 h2 h3 h4 h5 h6 h7;cases hn:(n==0)
  ·simp only[show((8:Int)==1)=false from rfl,show((8:Int)==2)=false from rfl,show((8:Int)==3)=false from rfl,show((8:Int)==4)=false from rfl,show((8:Int)==5)=false from rfl,show((8:Int)==6)=false from rfl,show((8:Int)==7)=false from rfl,bK,aF,beq_self_eq_true,aB,aG,kR,oF,lt,Ba,hn];cases hw:(w==([]:ag))<;>simp[]
  ·obtain⟨z1,z2⟩:=Vo n 1000000000000 (by decide) hn;simp only[show((8:Int)==1)=false from rfl,show((8:Int)==2)=false from rfl,show((8:Int)==3)=false from rfl,show((8:Int)==4)=false from rfl,show((8:Int)==5)=false from rfl,show((8:Int)==6)=false from rfl,show((8:Int)==7)=false from rfl,bK,aF,beq_self_eq_true,aB,aG,kR,oF,lt,Ba,hn,z1,z2];cases hw:(w==([]:ag))<;>simp[]
 have f:∀j:Int,k≠j→(k==j)=false:=λj h=>bM.2 h;simp only[f _ h1,f _ h2,f _ h3,f _ h4,f _ h5,f _ h6,f _ h7,f _ h8,bK,aF,beq_self_eq_true,aG,kR,oF,lt]
theorem Vp(v:aW):∃e,ym v=some e∧yD v=some e:=by
 suffices h:∃e,yD v=some e by
  obtain⟨e,he⟩:=h;exact⟨e,(adn v).trans he,he⟩
 obtain⟨k,w,n,⟨r,g,b,a⟩⟩:=v;unfold yD;simp only[lt];have f:∀(c:Bool)(x y:Int),∃e,cond c (some x) (some y)=some e:=λc x y=>by cases c;exact⟨y,rfl⟩;exact⟨x,rfl⟩
 cases(k==1)<;>cases(w==([]:ag))<;>cases(k==2)<;>cases(k==3)<;>cases(k==4)<;>cases(k==5)<;>cases(k==6)<;>cases(k==7)<;>cases(k==8)<;>first|exact f _ _ _|exact⟨_,rfl⟩
theorem ado:(fO.all λp=>decide (p.dA.length<60)&&decide (p.dt.length<60)&&!(p.dt.contains 1))=true:=by kernel_rfl
theorem adp{ba:Int}(h:0≤ba∧ba<ln fO):gi fO ba∈fO:=by
 obtain⟨i,rfl⟩:∃i:Nat,ba=i:=⟨ba.toNat,by omega⟩;have hi:i<fO.length:=by unfold ln at h;omega
 rw[fh _ _ hi];exact List.getElem_mem _
theorem adq(l:List Int)(x:Int)(h:l.length<60):Kq 64 l x=some (lU (λi=>x==gi l i) l.length 0).isSome:=by
 have h1:=HI (Ko 64 l x) (λi=>x==gi l i) (λi=>Sum.inl i) (Sum.inr ()) (ln l) l.length rfl (by omega)
  (λkk i hi=>by rw[Ko];exact HH hi) l.length 0 64 rfl (by omega) (by omega)
 unfold Kq Ou;rw[show(0:Int)=((0:Nat):Int)from rfl,h1];cases hf:lU (λi=>x==gi l i) l.length 0 with
 |none=>rfl
 |some r=>
  have h0:=LJ _ _ _ _ hf;have h2:decide (((0:Nat):Int)≤r)=true:=cB (by omega);show some (decide (((0:Nat):Int)≤r))=_;rw[h2];rfl
def a0W(p:da)(w:ag):Bool:=(lU (λi=>w==gi p.dA i) p.dA.length 0).isSome
def a0X(p:da)(v:aW):Bool:=cond (lU (λi=>v.a7==gi p.dt i) p.dt.length 0).isSome (cond (!p.CN) true (decide (0≤v.bj))) false
def HM(ba:Int)(v:aW)(e:Int):Bool×Int:=cond (cond (decide (ba<0)) true (decide (18≤ba))) (false,2)
 (cond (e !=0) (false,0) (cond (v.a7==1) (a0W (gi fO ba) v.oh,0) (a0X (gi fO ba) v,0)))
theorem rng{ba:Int}(h:cond (decide (ba<0)) true (decide (18≤ba))=false):0≤ba∧ba<ln fO:=by
 rw[HJ];by_cases h1:ba<0
 ·rw[cB h1]at h;cases h
 ·rw[cv h1]at h;have:¬(18≤ba):=of_decide_eq_false h;omega
theorem lens{ba:Int}(h:0≤ba∧ba<ln fO):(gi fO ba).dA.length<60∧(gi fO ba).dt.length<60∧(gi fO ba).dt.contains 1=false:=by
 have:=List.all_eq_true.1 ado _ (adp h);simp only[Bool.and_eq_true,decide_eq_true_eq,Bool.not_eq_true']at this;exact⟨this.1.1,this.1.2,this.2⟩
theorem LS(ba:Int)(v:aW)(e:Int)(he:ym v=some e):D7 64 ba v=some (HM ba v e):=by
 unfold D7 HM;simp only[lt_eq];cases hr:cond (decide (ba<0)) true (decide (18≤ba))
 ·have h0:=rng hr;obtain⟨l1,l2,_⟩:=lens h0;simp only[aG];rw[Vh];simp only[aF];rw[bz h0,he];simp only[aF];cases(e !=0)
  ·simp only[aG];rw[LL _ _ l1,adq _ _ l2];simp only[aF];cases(v.a7==1)<;>rfl
  ·rfl
 ·rfl
theorem adr(ba:Int)(v:aW)(e:Int)(he:yD v=some e):E1 64 ba v=some (HM ba v e):=by
 unfold E1 HM;rw[Vi];simp only[lt_eq,aF];rw[show ln fO=18 from HJ];cases hr:cond (decide (ba<0)) true (decide (18≤ba))
 ·have h0:=rng hr;obtain⟨l1,l2,_⟩:=lens h0;simp only[aG];rw[he];simp only[aF];cases(e !=0)
  ·simp only[aG];rw[←show ln fO=18 from HJ,bz h0];have hw:=HI (Le 64 ba v fO) (λi=>v.oh==gi (gi fO ba).dA i) (λi=>Sum.inl (Sum.inl (true,0))) (Sum.inr ()) (ln (gi fO ba).dA) (gi fO ba).dA.length rfl (by omega)
    (λkk i hi=>by rw[Le,Pf];exact HH hi) _ 0 64 rfl (by omega) (by omega)
   have hk:=HI (Lg 64 ba v fO) (λi=>v.a7==gi (gi fO ba).dt i) (λi=>Sum.inl (cond (!(gi fO ba).CN) true (decide (0≤v.bj)),0)) (Sum.inr ()) (ln (gi fO ba).dt) (gi fO ba).dt.length rfl (by omega)
    (λkk i hi=>by rw[Lg,Pf];exact HH hi) _ 0 64 rfl (by omega) (by omega)
   rw[show(0:Int)=((0:Nat):Int)from rfl,hw,hk];unfold a0W a0X;cases(v.a7==1)
   ·cases hf:lU (λi=>v.a7==gi (gi fO ba).dt i) (gi fO ba).dt.length 0<;>rfl
   ·cases hf:lU (λi=>v.oh==gi (gi fO ba).dA i) (gi fO ba).dA.length 0<;>rfl
  ·rfl
 ·rfl
theorem a0Y(c:be):ym ⟨7,[],0,c⟩=some 0:=by
 unfold ym;simp[lt_eq,bK]
def qw(ba:Int)(v:aW):Bool×Int:=(D7 64 ba v).getD (false,0)
theorem Vq(ba:Int)(v:aW):D7 64 ba v=some (qw ba v)∧E1 64 ba v=some (qw ba v):=by
 obtain⟨e,h1,h2⟩:=Vp v;have h3:=LS ba v e h1;have h4:=adr ba v e h2;unfold qw;rw[h3,h4];exact⟨rfl,rfl⟩
theorem ads(ba:Int)(c c':be):qw ba ⟨7,[],0,c⟩=qw ba ⟨7,[],0,c'⟩:=by
 unfold qw;rw[LS ba _ 0 (a0Y c),LS ba _ 0 (a0Y c')];rfl
theorem adt{ba:Int}(h:cond (decide (ba<0)) true (decide (18≤ba))=true)(v:aW):(qw ba v).2=2:=by
 obtain⟨e,h1,h2⟩:=Vp v;unfold qw;rw[LS ba v e h1];unfold HM;rw[h];rfl
theorem adu{ba:Int}(h:cond (decide (ba<0)) true (decide (18≤ba))=false)(v:aW):(qw ba v).2=0:=by
 obtain⟨e,h1,h2⟩:=Vp v;unfold qw;rw[LS ba v e h1];unfold HM;rw[h,aG];cases(e !=0)
 ·cases(v.a7==1)<;>rfl
 ·rfl
def yI(ba:Int)(q:List aW):Bool:=q.any λx=>(qw ba x).1
theorem adv(ba:Int)(q:List aW)(hl:q.length≤10):∀(kk i:Nat),q.length-i<kk→i≤q.length→
  (yI ba (q.drop i)=true∧∃x,An FU ba q kk (i:Int)=some (.inl (x,0)))∨(yI ba (q.drop i)=false∧An FU ba q kk (i:Int)=some (.inr ())):=by
 intro kk
 induction kk with
 |zero=>intro i h;omega
 |succ kk ih=>
  intro i h hi;rw[An];by_cases h1:i<q.length
  ·rw[ct h1,aB,bR h1,(Vq ba _).1,aF,fv h1,fh q i h1];unfold yI;rw[List.any_cons];cases hh:(qw ba q[i]).1
   ·rw[o7,aG,bG (by omega)];exact ih (i+1) (by omega) (by omega)
   ·left;exact⟨Bool.true_or _,_,rfl⟩
  ·right;rw[cq (by omega),aG,gR (by omega)];exact⟨rfl,rfl⟩
theorem adw(ba:Int)(q:List aW)(hl:q.length≤10):∀(kk i:Nat),q.length-i<kk→i≤q.length→
  (yI ba (q.drop i)=true∧∃x,B7 FU ba q kk (i:Int)=some (.inl (x,0)))∨(yI ba (q.drop i)=false∧B7 FU ba q kk (i:Int)=some (.inr ())):=by
 intro kk
 induction kk with
 |zero=>intro i h;omega
 |succ kk ih=>
  intro i h hi;rw[B7];by_cases h1:i<q.length
  ·rw[ct h1,aB,bR h1,(Vq ba _).2,aF,fv h1,fh q i h1];unfold yI;rw[List.any_cons];cases hh:(qw ba q[i]).1
   ·rw[o7,aG,bG (by omega)];exact ih (i+1) (by omega) (by omega)
   ·left;exact⟨Bool.true_or _,_,rfl⟩
  ·right;rw[cq (by omega),aG,gR (by omega)];exact⟨rfl,rfl⟩
theorem LU(v:aj):v.ay.bU.length+v.ay.Unit.length+cj v.J+8≤zV v:=by
 obtain⟨t,l⟩:=v;simp only[zV,zT,aj.ay,aj.J];omega
theorem adx(v:aj)(hv:zV v≤1048576):∃c c' b,Km FU v=some (c,b)∧Lt FU v=some (c',b):=by
 have hz:=LU v;have hl:=jz v.J;unfold Km Lt;cases(v.ay.a7==1)
 ·rw[aG,aG];cases(v.ay.a7==4)
  ·rw[aG,aG];cases(v.ay.a7==2)
   ·exact⟨_,_,_,rfl,rfl⟩
   ·obtain⟨y,h1,h2⟩:=Pr v.ay.bU (by omega);rw[aB,aB,h1,h2,aF,aF,lt_eq,lt_eq];cases(cond (y==[114,103,98]) true (y==[114,103,98,97]))
    ·exact⟨_,_,_,rfl,rfl⟩
    ·obtain⟨c,e1⟩:=adh v.J (by omega);obtain⟨c',e2⟩:=adm v.J (by omega);rw[aB,aB,e1,e2];exact⟨c,c',_,rfl,rfl⟩
  ·obtain⟨c,e1⟩:=ad4 v.ay.bU (by omega);obtain⟨c',e2⟩:=ad9 v.ay.bU (by omega);rw[aB,aB,e1,e2];exact⟨c,c',_,rfl,rfl⟩
 ·obtain⟨c,e1,e2⟩:=acW v.ay.bU (by omega);rw[aB,aB,e1,e2];exact⟨_,_,_,rfl,rfl⟩
def hd(c:be)(b:Bool):List aW:=cond b [⟨7,[],0,c⟩] []
theorem Pw(c:be)(b:Bool):(hd c b).length≤1:=by cases b<;>exact Nat.le_of_ble_eq_true rfl
theorem tv{β:Type}(a b:List aW)(k:Option β)(ha:a.length≤10)(hb:b.length≤10):au (ln a+ln b≤137438953472) k=k:=bz (by unfold ln;omega)
def UN:List ag:=[[112,120],[101,109],[114,101,109]]
theorem ady(m:Nat)(v:aj)(y:ag)(hy:nQ m v.ay.Unit=some y)(z:List aW)(hz:z.length≤5)(hm:4<m):
  B6 m v m z 0=some (z++cond (decide (0<gi ([2,3,4,0]:List Int) (lG UN y))) [aW.mk (gi ([2,3,4,0]:List Int) (lG UN y)) [] v.ay.bj (be.mk 0 0 0 0)] []):=by
 obtain⟨k,rfl⟩:∃k,m=k+1+1+1+1:=⟨m-4,by omega⟩;have st:∀(q:List aW)(kk i:Nat)(u:ag)(hi:i<3)(hu:gi UN (i:Int)=u)(hq:q.length≤8),B6 (k+1+1+1+1) v (kk+1) q (i:Int)=B6 (k+1+1+1+1) v kk (q++cond (y==u) [aW.mk ((2+i:Nat):Int) [] v.ay.bj (be.mk 0 0 0 0)] []) ((i+1:Nat):Int):=by
  intro q kk i u hi hu hq;have hw:bA (2+bA (i:Int))=((2+i:Nat):Int):=by rw[XR (x:=(i:Int)) (by omega) (by omega),XR (by omega) (by omega)];omega
  rw[B6,cB (show(i:Int)<3 by omega),aB,hy,aF,bR (l:=([[112,120],[101,109],[114,101,109]]:List ag)) hi,lt_eq,show gi ([[112,120],[101,109],[114,101,109]]:List ag) (i:Int)=u from hu,hw,bG (by omega)];cases(y==u)
  ·rw[aG,aG,List.append_nil];rfl
  ·rw[aB,aB,tv _ _ _ (by omega) (by simp),lt_eq];rfl
 have Vr:∀(u:ag)(n:Int),(cond (y==u) [aW.mk n [] v.ay.bj (be.mk 0 0 0 0)] []).length≤1:=λu n=>by cases(y==u)<;>simp
 have e:=st z (k+1+1+1) 0 [112,120] (by decide) rfl (by omega);have e1:=st (z++cond (y==[112,120]) [aW.mk ((2+0:Nat):Int) [] v.ay.bj (be.mk 0 0 0 0)] []) (k+1+1) 1 [101,109] (by decide) rfl (by have:=Vr [112,120] ((2+0:Nat):Int);rw[ee];omega);have e2:=st (z++cond (y==[112,120]) [aW.mk ((2+0:Nat):Int) [] v.ay.bj (be.mk 0 0 0 0)] []++cond (y==[101,109]) [aW.mk ((2+1:Nat):Int) [] v.ay.bj (be.mk 0 0 0 0)] []) (k+1) 2 [114,101,109] (by decide) rfl (by have:=Vr [112,120] ((2+0:Nat):Int);have:=Vr [101,109] ((2+1:Nat):Int);rw[ee,ee];omega);rw[show(0:Int)=((0:Nat):Int)from rfl,e,show((0+1:Nat):Int)=((1:Nat):Int)from rfl,e1,show((1+1:Nat):Int)=((2:Nat):Int)from rfl,e2,B6,cv (by omega),aG];have hx:lG UN y=cond (y==[112,120]) 0 (cond (y==[101,109]) 1 (cond (y==[114,101,109]) 2 3)):=by
  unfold lG UN;simp only[kx];cases(y==[112,120])<;>cases(y==[101,109])<;>cases(y==[114,101,109])<;>rfl
 rw[hx];by_cases p1:y=[112,120]
 ·subst p1;simp;rfl
 ·by_cases p2:y=[101,109]
  ·subst p2;simp;rfl
  ·by_cases p3:y=[114,101,109]
   ·subst p3;simp;rfl
   ·rw[show(y==[112,120])=false from bM.2 p1,show(y==[101,109])=false from bM.2 p2,show(y==[114,101,109])=false from bM.2 p3];simp;rfl
theorem a0Z(c:be)(b:Bool):(cond b (au (ln ([]:List aW)+ln ([aW.mk 7 [] 0 c]:List aW)≤137438953472) (lt (([]:List aW)++([aW.mk 7 [] 0 c]:List aW)) λnH=>some nH)) (some ([]:List aW)):Option (List aW))=some (hd c b):=by
 cases b
 ·rfl
 ·rw[aB,tv _ _ _ (by decide) (by simp),lt_eq];rfl
theorem adz(v:aj)(hv:zV v≤1048576):∃c c' b tl,G8 FU v=some (hd c b++tl)∧Hw FU v=some (hd c' b++tl)∧tl.length≤4:=by
 have hz:=LU v;obtain⟨c,c',b,e1,e2⟩:=adx v hv;have l1:=Pw c b;have l2:=Pw c' b;refine⟨c,c',b,?_⟩;unfold G8 Hw;rw[e1,e2,aF,aF];dsimp only;rw[a0Z,a0Z,aF,aF];generalize hd c b=A at*;generalize hd c' b=B at*;have ap:∀(q:List aW)(x:aW)(n:Nat),q.length≤n→(q++[x]).length≤n+1:=λq x n h=>by simp only[ee,cN,dn];omega
 cases(v.ay.a7==1)
 ·rw[aG,aG];cases(v.ay.a7==12)
  ·rw[aG,aG];cases(v.ay.a7==10)
   ·exact⟨[],by rw[List.append_nil];rfl,by rw[List.append_nil];rfl,by decide⟩
   ·rw[aB,aB];have h2:∀q:List aW,q.length≤1→(cond v.ay.eU (au (ln q+ln ([aW.mk 6 [] (a8 (Int.tdiv v.ay.bj 1000)) (be.mk 0 0 0 0)]:List aW)≤137438953472) (lt (q++([aW.mk 6 [] (a8 (Int.tdiv v.ay.bj 1000)) (be.mk 0 0 0 0)]:List aW)) λKn=>some Kn)) (some q):Option (List aW))=some (q++cond v.ay.eU [aW.mk 6 [] (a8 (Int.tdiv v.ay.bj 1000)) (be.mk 0 0 0 0)] []):=by
     intro q hq;cases v.ay.eU
     ·rw[aG,aG,List.append_nil]
     ·rw[aB,aB,tv _ _ _ (by omega) (by simp),lt_eq]
    have fl:(cond v.ay.eU [aW.mk 6 [] (a8 (Int.tdiv v.ay.bj 1000)) (be.mk 0 0 0 0)] ([]:List aW)).length≤1:=by
     cases v.ay.eU<;>exact Nat.le_of_ble_eq_true rfl
    rw[h2 A l1,h2 B l2,aF,aF];generalize(cond v.ay.eU [aW.mk 6 [] (a8 (Int.tdiv v.ay.bj 1000)) (be.mk 0 0 0 0)] ([]:List aW))=F at*;have la:(A++F).length≤2:=by rw[ee];omega
    have lb:(B++F).length≤2:=by rw[ee];omega
    rw[tv _ _ _ (by omega) (by simp),tv _ _ _ (by omega) (by simp)];simp only[lt_eq];cases(v.ay.bj==0)
    ·refine⟨F++[aW.mk 5 [] v.ay.bj (be.mk 0 0 0 0)],?_,?_,?_⟩
     ·rw[←mG];rfl
     ·rw[←mG];rfl
     ·have:=ap F (aW.mk 5 [] v.ay.bj (be.mk 0 0 0 0)) 1 fl;omega
    ·rw[aB,aB,tv _ _ _ (Nat.le_trans (ap _ _ 2 la) (by decide)) (by simp),tv _ _ _ (Nat.le_trans (ap _ _ 2 lb) (by decide)) (by simp)];refine⟨F++[aW.mk 5 [] v.ay.bj (be.mk 0 0 0 0)]++[aW.mk 2 [] 0 (be.mk 0 0 0 0)],?_,?_,?_⟩
     ·rw[←mG,←mG];rfl
     ·rw[←mG,←mG];rfl
     ·have:=ap _ (aW.mk 2 [] 0 (be.mk 0 0 0 0)) 2 (ap F (aW.mk 5 [] v.ay.bj (be.mk 0 0 0 0)) 1 fl);omega
  ·obtain⟨y,h1,h2⟩:=Pr v.ay.Unit (by omega);rw[aB,aB,h1,aF,lt_eq,lt_eq,ady FU v y h2 B (by omega) (by unfold FU;omega)];show∃tl,Option.bind (cond (decide (0<gi ([2,3,4,0]:List Int) (lG UN y))) (au (ln A+ln ([aW.mk (gi ([2,3,4,0]:List Int) (lG UN y)) [] v.ay.bj (be.mk 0 0 0 0)]:List aW)≤137438953472) (lt (A++([aW.mk (gi ([2,3,4,0]:List Int) (lG UN y)) [] v.ay.bj (be.mk 0 0 0 0)]:List aW)) λyc=>some yc)) (some A)) _=_∧_∧_;cases(decide (0<gi ([2,3,4,0]:List Int) (lG UN y)))
   ·exact⟨[],by rw[List.append_nil];rfl,rfl,by decide⟩
   ·rw[aB,aB,tv _ _ _ (by omega) (by simp),lt_eq];exact⟨[_],rfl,rfl,by simp⟩
 ·obtain⟨y,h1,h2⟩:=Pr v.ay.bU (by omega);rw[aB,aB,h1,h2,aF,aF,tv _ _ _ (by omega) (by simp),tv _ _ _ (by omega) (by simp)];simp only[lt_eq,aF];cases(y==[99,117,114,114,101,110,116,99,111,108,111,114])
  ·exact⟨[aW.mk 1 y 0 (be.mk 0 0 0 0)],rfl,rfl,by simp⟩
  ·rw[aB,aB,tv _ _ _ (Nat.le_trans (ap _ _ 1 l1) (by decide)) (by simp),tv _ _ _ (Nat.le_trans (ap _ _ 1 l2) (by decide)) (by simp)];refine⟨[aW.mk 1 y 0 (be.mk 0 0 0 0),aW.mk 8 [] 0 (be.mk 0 0 0 0)],?_,?_,by simp⟩
   ·rw[show A++[aW.mk 1 y 0 (be.mk 0 0 0 0)]++[aW.mk 8 [] 0 (be.mk 0 0 0 0)]=A++[aW.mk 1 y 0 (be.mk 0 0 0 0),aW.mk 8 [] 0 (be.mk 0 0 0 0)]from by simp];rfl
   ·rw[show B++[aW.mk 1 y 0 (be.mk 0 0 0 0)]++[aW.mk 8 [] 0 (be.mk 0 0 0 0)]=B++[aW.mk 1 y 0 (be.mk 0 0 0 0),aW.mk 8 [] 0 (be.mk 0 0 0 0)]from by simp];rfl
theorem adA(ba:Int)(c c':be)(b:Bool)(tl:List aW):yI ba (hd c b++tl)=yI ba (hd c' b++tl):=by
 unfold yI;rw[List.any_append,List.any_append];cases b
 ·rfl
 ·show((qw ba ⟨7,[],0,c⟩).1||false||_)=((qw ba ⟨7,[],0,c'⟩).1||false||_);rw[ads ba c c']
theorem adB(ba:Int)(l:List aj)(hl:cj l≤1048576):∃x e x' e',Kr FU ba l=some (x,e)∧Lv FU ba l=some (x',e')∧(e==0)=(e'==0):=by
 unfold Kr Lv;rw[lt_eq,(Vq ba _).2,aF];cases ho:(cond (decide (ba<0)) true (decide (18≤ba)))
 ·rw[aG,adu ho,show((0:Int) !=0)=false from rfl,aG];by_cases h1:ln l=1
  ·have hlen:0<l.length:=by unfold ln at h1;omega
   have hm:=fY (l:=l) (i:=0) hlen;have hz:=kM hm;obtain⟨c,c',b,tl,m1,m2,ht⟩:=adz (gi l ((0:Nat):Int)) (by omega);rw[h1,bne_self_eq_false,aG,aG,bz ⟨by decide,by decide⟩,bz ⟨by decide,by decide⟩,show G8 FU (gi l (0:Int))=_ from m1,show Hw FU (gi l (0:Int))=_ from m2,aF,aF];have g1:=Pw c b;have g2:=Pw c' b;have he:=adA ba c c' b tl;rcases adv ba (hd c b++tl) (by rw[ee];omega) FU 0 (by unfold FU;rw[ee];omega) (fT _)with⟨p1,x,p2⟩|⟨p1,p2⟩<;>rcases adw ba (hd c' b++tl) (by rw[ee];omega) FU 0 (by unfold FU;rw[ee];omega) (fT _)with⟨q1,x',q2⟩|⟨q1,q2⟩
   ·rw[show An FU ba (hd c b++tl) FU 0=_ from p2,show B7 FU ba (hd c' b++tl) FU 0=_ from q2];exact⟨x,0,x',0,rfl,rfl,rfl⟩
   ·rw[du]at p1 q1;rw[p1,q1]at he;cases he
   ·rw[du]at p1 q1;rw[p1,q1]at he;cases he
   ·rw[show An FU ba (hd c b++tl) FU 0=_ from p2,show B7 FU ba (hd c' b++tl) FU 0=_ from q2];exact⟨_,12,_,12,rfl,rfl,rfl⟩
  ·rw[show(ln l !=1)=true from bne_iff_ne.2 h1];exact⟨_,12,_,12,rfl,rfl,rfl⟩
 ·rw[aB,adt ho];exact⟨_,2,_,2,rfl,rfl,rfl⟩
def wW(name:ag)(l:List aj):Bool:=(Ap FU name l).getD false
theorem Px(name:ag)(l:List aj)(hl:cj l≤1048576):Ap FU name l=some (wW name l)∧E7 FU name l=some (wW name l):=by
 have h:∃b,Ap FU name l=some b∧E7 FU name l=some b:=by
  unfold Ap E7;rw[a0E,a0F,aF,aF];cases((pE name).2 !=0)
  ·obtain⟨x,e,x',e',h1,h2,h3⟩:=adB (pE name).1 l hl;rw[aG,aG,h1,h2,aF,aF,h3];exact⟨_,rfl,rfl⟩
  ·exact⟨_,rfl,rfl⟩
 obtain⟨b,h1,h2⟩:=h;unfold wW;rw[h1,h2];exact⟨rfl,rfl⟩
def fg(w:ag):List ag:=cond (w==h9) Po (cond (pH w) [w++[45,99,111,108,111,114]] [])
theorem a10(w:ag)(hw:w.length≤1048576):A7 64 w=some (fg w):=by
 unfold A7 fg;rw[lt_eq,LL ya w (by decide),aF];rw[show(lU (λi=>w==gi ya i) ya.length 0).isSome=cond (w==h9) true (pH w)from Vm _ _ _ _ w];cases hm:(w==h9)
 ·rw[aG,aG,lt_eq];cases hs:pH w
  ·rfl
  ·rw[fL,aG,show(!(w==([109,97,114,103,105,110]:ag)))=true from by rw[show(w==([109,97,114,103,105,110]:ag))=false from hm];rfl,aB,bz (by unfold ln;simp only[cN,dn];omega)];rfl
 ·have e:w=h9:=eq_of_beq hm;subst e;rw[show JS 64 h9 64 [] 0=some Po from by kernel_rfl];rfl
theorem a11(w:ag)(hw:w.length≤1048576):AY w=some (fg w):=by
 unfold AY fg;rw[show(w==([109,97,114,103,105,110]:ag))=(w==h9)from rfl];cases hm:(w==h9)
 ·simp only[lt_eq,aG];have e:(cond (w==([98,111,114,100,101,114]:ag)) (some (w==([98,111,114,100,101,114]:ag))) (cond (w==([111,117,116,108,105,110,101]:ag)) (some (w==([111,117,116,108,105,110,101]:ag))) (some (w==([98,97,99,107,103,114,111,117,110,100]:ag)))))=some (pH w):=by
   unfold pH;cases(w==([98,111,114,100,101,114]:ag))<;>cases(w==([111,117,116,108,105,110,101]:ag))<;>rfl
  rw[e,aF];cases hs:pH w
  ·rfl
  ·rw[aB,bz (by unfold ln;simp only[cN,dn];omega)];rfl
 ·rfl
def gG(l:List aj)(i:Nat):Bool:=(gi l (i:Int)).ay.a7==13
def gl(l:List aj):Nat→Nat→List (List aj)→Option (List (List aj))
 |0,_,v=>some v
 |k+1,i,v=>cond (gG l i) (gl l k (i+1) v) (cond (cond (decide (0<i)) (!(gG l (i-1))) false) none (gl l k (i+1) (v++[[gi l (i:Int)]])))
theorem qD{l:List aj}{i:Nat}(h:i<l.length):eY l (i:Int) ((i+1:Nat):Int)=[gi l (i:Int)]:=by
 rw[fh l i h];unfold eY;simp only[Int.toNat_natCast];rw[fv h,show i+1-i=1 from by omega];rfl
theorem adC(l:List aj)(hl:l.length≤1048576):∀(kk i k:Nat)(v:List (List aj)),i+k=l.length→k<kk→v.length≤i→
  Gf FU l kk v (i:Int)=match gl l k i v with
   |none=>some (.inl [])
   |some q=>some (.inr q):=by
 intro kk
 induction kk with
 |zero=>intro i k v _ h;omega
 |succ kk ih=>
  intro i k v EQ hk hv;rw[Gf];cases k with
  |zero=>rw[cq (by omega),aG];rfl
  |succ k=>
   have h1:i<l.length:=by omega
   rw[ct h1,aB,bR h1,gl];show Option.bind (cond (gG l i) _ _) _=_;cases hs:gG l i
   ·rw[aG,aG];have adD:(cond (decide (0<(i:Int))) ((gi l (a8 ((i:Int)-1))).ay.a7 !=13) false)=cond (decide (0<i)) (!(gG l (i-1))) false:=by
     by_cases h0:0<i
     ·rw[cB h0,cB (show(0:Int)<(i:Int) by omega),aB,aB,show a8 ((i:Int)-1)=((i-1:Nat):Int)from by rw[o5 (by omega) (by omega)];omega];rfl
     ·rw[cv h0,cv (show¬(0:Int)<(i:Int) by omega)];rfl
    rw[bz (λh=>by
     have h0:(0:Int)<(i:Int):=by simpa using h
     rw[show a8 ((i:Int)-1)=((i-1:Nat):Int)from by rw[o5 (by omega) (by omega)];omega];exact⟨by omega,by unfold ln;omega⟩),lt_eq,adD]
    cases(cond (decide (0<i)) (!(gG l (i-1))) false)
    ·rw[aG,aG,bG (by omega),bz ⟨by omega,by omega,by unfold ln;omega⟩,lt_eq,qD h1,bz (by unfold ln;simp only[cN,dn];omega),lt_eq,aF];dsimp only[bK];exact ih (i+1) k _ (by omega) (by omega) (by simp only[ee,cN,dn];omega)
    ·rfl
   ·rw[aB,aB,aF];dsimp only[bK];rw[bG (by omega)];exact ih (i+1) k v (by omega) (by omega) (by omega)
theorem adE(l:List aj)(hl:l.length≤1048576)(h0:0<l.length)(hf:gG l 0=false):∀(kk i k:Nat)(v:List (List aj))(b:Bool),i+k=l.length→k<kk→v.length≤i→b=cond (decide (0<i)) (gG l (i-1)) true→
  wS FU l kk v b (i:Int)=match gl l k i v with
   |none=>some (.inl [])
   |some q=>some (.inr (q,gG l (l.length-1))):=by
 intro kk
 induction kk with
 |zero=>intro i k v b _ h;omega
 |succ kk ih=>
  intro i k v b EQ hk hv hb;rw[wS];cases k with
  |zero=>
   have hi:i=l.length:=by omega
   rw[cq (by omega),aG,gl];rw[hb,cB (by omega),aB,hi]
  |succ k=>
   have h1:i<l.length:=by omega
   have a13:gG l i=cond (decide (0<i+1)) (gG l (i+1-1)) true:=by rw[cB (by omega),aB];rfl
   rw[ct h1,aB,bR h1,gl,lt_eq,lt_eq,hb];show cond (cond (cond (!(gG l i)) (!(cond (decide (0<i)) (gG l (i-1)) true)) false) true (cond (gG l i) ((i:Int)==0) false)) _ (Option.bind (cond (!(gG l i)) _ _) λjM=>wS FU l kk jM (gG l i) _)=_;cases hs:gG l i
   ·simp only[gS,aB,aG];have e:(!(cond (decide (0<i)) (gG l (i-1)) true))=cond (decide (0<i)) (!(gG l (i-1))) false:=by
     cases decide (0<i)<;>rfl
    rw[e];cases(cond (decide (0<i)) (!(gG l (i-1))) false)
    ·simp only[aG];rw[bG (by omega),bz ⟨by omega,by omega,by unfold ln;omega⟩,lt_eq,qD h1,bz (by unfold ln;simp only[cN,dn];omega),lt_eq,aF];exact ih (i+1) k _ false (by omega) (by omega) (by simp only[ee,cN,dn];omega) (by rw[←hs];exact a13)
    ·rfl
   ·have hi0:((i:Int)==0)=false:=by
     refine bM.2 λe=>?_;have:i=0:=by omega
     subst this;rw[hf]at hs;cases hs
    simp only[fL,aB,aG,hi0];rw[aF,bG (by omega)];exact ih (i+1) k v true (by omega) (by omega) (by omega) (by rw[←hs];exact a13)
abbrev LV:=List (List aj)
def Bb:LV→LV
 |[a]=>[a,a,a,a]
 |[a,b]=>[a,b,a,b]
 |[a,b,c]=>[a,b,c,b]
 |v=>v
def pt(l:List aj):LV:=cond (decide (l.length=0)) [] (cond (cond (gG l 0) true (gG l (l.length-1))) [] (match gl l l.length 0 []with
 |none=>[]
 |some v=>cond (decide (4<v.length)) [] (Bb v)))
theorem Vs(l:List aj):∀(k i:Nat)(v q:LV),gl l k i v=some q→v.length≤q.length
 |0,i,v,q,h=>by cases h;exact dz _
 |k+1,i,v,q,h=>by
  rw[gl]at h;cases hs:gG l i
  ·rw[hs,aG]at h;cases hq:(cond (decide (0<i)) (!(gG l (i-1))) false)
   ·rw[hq,aG]at h;have:=Vs l k (i+1) _ q h;simp only[ee,cN,dn]at this;omega
   ·rw[hq]at h;cases h
  ·rw[hs,aB]at h;exact Vs l k (i+1) v q h
theorem a14(l:List aj)(hf:gG l 0=false)(hl:0<l.length)(q:LV)(h:gl l l.length 0 []=some q):0<q.length:=by
 obtain⟨k,hk⟩:∃k,l.length=k+1:=⟨l.length-1,by omega⟩;rw[hk,gl,hf,aG,cv (by omega),aG,aG]at h;have:=Vs l k 1 _ q h;simp only[List.nil_append,cN,dn]at this;omega
def fp(v:LV):Option LV:=Option.bind (au (0≤a8 (ln v-1)∧a8 (ln v-1)≤ln ([0,0,1]:List Int)∧ln ([0,0,1]:List Int)≤ln ([0,0,1]:List Int))<|
 lt (eY ([0,0,1]:List Int) (a8 (ln v-1)) (ln ([0,0,1]:List Int))) λld=>
 Oy FU ld FU v 0) λ(ig:LV)=>some ig
theorem fp1(a:List aj):fp [a]=some [a,a,a,a]:=by kernel_rfl
theorem fp2(a b:List aj):fp [a,b]=some [a,b,a,b]:=by kernel_rfl
theorem fp3(a b c:List aj):fp [a,b,c]=some [a,b,c,b]:=by kernel_rfl
theorem fp4(a b c d:List aj):fp [a,b,c,d]=some [a,b,c,d]:=by kernel_rfl
def fq(v:LV):Option LV:=Option.bind (
 cond (decide (ln v<2)) (
 au (0≤(0:Int)∧(0:Int)<ln v)<|
 au (ln v+ln ([gi v (0:Int)]:LV)≤137438953472)<|
 lt (v++([gi v (0:Int)]:LV)) λwO=>
 some wO) (
 some v)) λ(fD:LV)=>
 Option.bind (
 cond (decide (ln fD<3)) (
 au (0≤(0:Int)∧(0:Int)<ln fD)<|
 au (ln fD+ln ([gi fD (0:Int)]:LV)≤137438953472)<|
 lt (fD++([gi fD (0:Int)]:LV)) λLx=>
 some Lx) (
 some fD)) λ(z87:LV)=>
 Option.bind (
 cond (decide (ln z87<4)) (
 au (0≤(1:Int)∧(1:Int)<ln z87)<|
 au (ln z87+ln ([gi z87 (1:Int)]:LV)≤137438953472)<|
 lt (z87++([gi z87 (1:Int)]:LV)) λLy=>
 some Ly) (
 some z87)) λ(E9:LV)=>
 some E9
theorem fq1(a:List aj):fq [a]=some [a,a,a,a]:=by kernel_rfl
theorem fq2(a b:List aj):fq [a,b]=some [a,b,a,b]:=by kernel_rfl
theorem fq3(a b c:List aj):fq [a,b,c]=some [a,b,c,b]:=by kernel_rfl
theorem fq4(a b c d:List aj):fq [a,b,c,d]=some [a,b,c,d]:=by kernel_rfl
theorem fill(v:LV)(hp:0<v.length)(h4:¬4<v.length):fp v=some (Bb v)∧fq v=some (Bb v):=by
 match v,hp,h4 with
 |[a],_,_=>exact⟨fp1 a,fq1 a⟩
 |[a,b],_,_=>exact⟨fp2 a b,fq2 a b⟩
 |[a,b,c],_,_=>exact⟨fp3 a b c,fq3 a b c⟩
 |[a,b,c,d],_,_=>exact⟨fp4 a b c d,fq4 a b c d⟩
 |a::b::c::d::e::r,_,h=>exact absurd h (by simp only[cN];omega)
theorem adF(l:List aj)(hl:l.length≤1048576):Gg FU l=some (pt l):=by
 unfold Gg pt;by_cases h0:l.length=0
 ·have:l=[]:=u4 h0;subst this;rfl
 ·have n0:(ln l==0)=false:=bM.2 (by unfold ln;omega);have wl:a8 (ln l-1)=((l.length-1:Nat):Int):=by unfold ln;rw[o5 (by omega) (by omega)];omega
  rw[n0,cv h0,aG,aG,bz (λ_=>⟨by decide,by unfold ln;omega⟩),lt_eq,wl,bz (λ_=>⟨by omega,by unfold ln;omega⟩),lt_eq];show cond (cond (gG l 0) true (gG l (l.length-1))) _ _=_;cases hb:(cond (gG l 0) true (gG l (l.length-1)))
  ·rw[aG,aG,show Gf FU l FU [] 0=_ from adC l hl FU 0 l.length [] (by omega) (by unfold FU;omega) (fT _)];have hf:gG l 0=false:=by
    cases h:gG l 0
    ·rfl
    ·rw[h]at hb;cases hb
   cases hg:gl l l.length 0 []with
   |none=>rfl
   |some v=>
    have hp:=a14 l hf (by omega) v hg;rw[aF];dsimp only[bK];by_cases h4:4<v.length
    ·rw[cB (show 4<ln v by unfold ln;omega),cB h4];rfl
    ·rw[cv (show¬4<ln v by unfold ln;omega),cv h4,aG,aG];exact(fill v hp h4).1
  ·rfl
theorem adG(l:List aj)(hl:l.length≤1048576):HA FU l=some (pt l):=by
 unfold HA pt;by_cases h0:l.length=0
 ·have:l=[]:=u4 h0;subst this;rfl
 ·rw[cv h0,aG];cases hf:gG l 0
  ·have hr:=adE l hl (by omega) hf FU 0 l.length [] true (by omega) (by unfold FU;omega) (fT _) rfl;rw[show wS FU l FU [] true 0=_ from hr,aG];cases hg:gl l l.length 0 []with
   |none=>
    cases gG l (l.length-1)<;>rfl
   |some v=>
    have hp:=a14 l hf (by omega) v hg;rw[aF];dsimp only[bK];rw[lt_eq];cases gG l (l.length-1)
    ·rw[aG,aG];by_cases h4:4<v.length
     ·rw[cB (show 4<ln v by unfold ln;omega),cB h4];rfl
     ·rw[cv (show¬4<ln v by unfold ln;omega),cv h4,aG,aG];exact(fill v hp h4).2
    ·rfl
  ·have e:wS FU l (1099999+1) [] true ((0:Nat):Int)=some (.inl []):=by
    rw[wS,ct (by omega),aB,bR (by omega),lt_eq,lt_eq];have hk:((gi l ((0:Nat):Int)).ay.a7==13)=true:=hf;rw[hk];rfl
   rw[show wS FU l FU [] true 0=_ from e];rfl
def yJ(y:List ag)(z:LV)(i:Nat):Nat→Bool
 |0=>true
 |k+1=>wW (gi y (i:Int)) (gi z (i:Int))&&yJ y z (i+1) k
theorem adH(y:List ag)(z:LV)(Vt:z.length=y.length)(hy:y.length≤10)(hz:∀x∈z,cj x≤1048576):∀(kk i k:Nat),i+k=y.length→k<kk→
  Gk FU z y kk (i:Int)=cond (yJ y z i k) (some (.inr ())) (some (.inl [])):=by
 intro kk
 induction kk with
 |zero=>intro i k _ h;omega
 |succ kk ih=>
  intro i k EQ hk;rw[Gk];cases k with
  |zero=>rw[cq (by omega),aG];rfl
  |succ k=>
   have h1:i<y.length:=by omega
   have h2:i<z.length:=by omega
   rw[ct h1,aB,bR h1,bR h2,(Px _ _ (hz _ (fY h2))).1,aF,yJ];cases wW (gi y (i:Int)) (gi z (i:Int))
   ·rfl
   ·rw[fL,aG,bG (by omega),kR];exact ih (i+1) k (by omega) (by omega)
theorem adI(y:List ag)(z:LV)(Vt:z.length=y.length)(hy:y.length≤10)(hz:∀x∈z,cj x≤1048576):∀(kk i k:Nat),i+k=y.length→k<kk→
  HC FU z y kk (i:Int)=cond (yJ y z i k) (some (.inr ())) (some (.inl [])):=by
 intro kk
 induction kk with
 |zero=>intro i k _ h;omega
 |succ kk ih=>
  intro i k EQ hk;rw[HC];cases k with
  |zero=>rw[cq (by omega),aG];rfl
  |succ k=>
   have h1:i<y.length:=by omega
   have h2:i<z.length:=by omega
   rw[ct h2,aB,bR h1,bR h2,(Px _ _ (hz _ (fY h2))).2,aF,yJ];cases wW (gi y (i:Int)) (gi z (i:Int))
   ·rfl
   ·rw[fL,aG,bG (by omega),kR];exact ih (i+1) k (by omega) (by omega)
theorem Vu(l:List aj)(wX:cj l≤1048576):∀(k i:Nat)(v q:LV),i+k=l.length→(∀x∈v,cj x≤1048576)→gl l k i v=some q→∀x∈q,cj x≤1048576
 |0,i,v,q,_,hv,h=>by cases h;exact hv
 |k+1,i,v,q,EQ,hv,h=>by
  rw[gl]at h;cases hs:gG l i
  ·rw[hs,aG]at h;cases hq:(cond (decide (0<i)) (!(gG l (i-1))) false)
   ·rw[hq,aG]at h;refine Vu l wX k (i+1) _ q (by omega) (λx hx=>?_) h;rcases List.mem_append.1 hx with h'|h'
    ·exact hv x h'
    ·rw[List.mem_singleton.1 h'];have hm:=kM (fY (show i<l.length by omega));simp only[cj];omega
   ·rw[hq]at h;cases h
  ·rw[hs,aB]at h;exact Vu l wX k (i+1) v q (by omega) hv h
theorem adJ{P:List aj→Prop}(v:LV)(h:∀x∈v,P x):∀x∈Bb v,P x:=by
 match v,h with
 |[],h=>exact h
 |[a],h=>intro x hx;have:=h a (by simp);simp[Bb]at hx;rw[hx];exact this
 |[a,b],h=>intro x hx;have h1:=h a (by simp);have h2:=h b (by simp);simp[Bb]at hx;rcases hx with hx|hx|hx|hx<;>rw[hx]<;>assumption
 |[a,b,c],h=>intro x hx;have h1:=h a (by simp);have h2:=h b (by simp);have h3:=h c (by simp);simp[Bb]at hx;rcases hx with hx|hx|hx|hx<;>rw[hx]<;>assumption
 |a::b::c::d::r,h=>exact h
theorem a15(l:List aj)(wX:cj l≤1048576):∀x∈pt l,cj x≤1048576:=by
 unfold pt;cases decide (l.length=0)
 ·cases(cond (gG l 0) true (gG l (l.length-1)))
  ·rw[aG,aG];cases hg:gl l l.length 0 []with
   |none=>intro x hx;cases hx
   |some v=>
    have:=Vu l wX l.length 0 [] v (by omega) (λx hx=>by cases hx) hg;show∀x∈cond (decide (4<v.length)) [] (Bb v),cj x≤1048576;cases decide (4<v.length)
    ·exact adJ v this
    ·intro x hx;cases hx
  ·intro x hx;cases hx
 ·intro x hx;cases hx
def ry(w:ag)(l:List aj):LV:=cond (ln (cond (w==h9) (pt l) [l]) !=ln (fg w)) [] (cond (yJ (fg w) (cond (w==h9) (pt l) [l]) 0 (fg w).length) (cond (w==h9) (pt l) [l]) [])
theorem a16(w:ag):(fg w).length≤4:=by
 unfold fg;cases(w==h9)<;>cases pH w<;>exact Nat.le_of_ble_eq_true rfl
theorem a17(w:ag)(l:List aj)(hw:w.length≤1048576)(wX:cj l≤1048576):Gn FU w l=some (ry w l)∧Lz FU w l=some (ry w l):=by
 have hl:=jz l;have XW:=a16 w;have e1:(cond (w==[109,97,114,103,105,110]) (Option.bind (Gg FU l) λbm=>some bm) (some ([l]:LV)):Option LV)=some (cond (w==h9) (pt l) [l]):=by
  rw[adF l (by omega)];show cond (w==h9) _ _=_;cases(w==h9)<;>rfl
 have e2:(cond (w==[109,97,114,103,105,110]) (Option.bind (HA FU l) λbm=>some bm) (some ([l]:LV)):Option LV)=some (cond (w==h9) (pt l) [l]):=by
  rw[adG l (by omega)];show cond (w==h9) _ _=_;cases(w==h9)<;>rfl
 have hm:∀x∈cond (w==h9) (pt l) [l],cj x≤1048576:=by
  cases(w==h9)
  ·intro x hx;rw[List.mem_singleton.1 hx];exact wX
  ·exact a15 l wX
 unfold Gn Lz ry;rw[e1,e2,aF,aF,a10 w hw,a11 w hw,aF,aF];generalize cond (w==h9) (pt l) [l]=z at*;cases hn:(ln z !=ln (fg w))
 ·have hlen:z.length=(fg w).length:=by
   have:=bne_eq_false_iff_eq.1 hn;unfold ln at this;omega
  rw[aG,aG,aG,show Gk FU z (fg w) FU 0=_ from adH (fg w) z hlen (by omega) hm FU 0 (fg w).length (by omega) (by unfold FU;omega),show HC FU z (fg w) FU 0=_ from adI (fg w) z hlen (by omega) hm FU 0 (fg w).length (by omega) (by unfold FU;omega)];cases yJ (fg w) z 0 (fg w).length<;>exact⟨rfl,rfl⟩
 ·exact⟨rfl,rfl⟩
theorem eta(x:aj):aj.mk x.ay x.J=x:=by cases x;rfl
theorem adK(m:Nat)(v:List aj)(rec:List aj→Option (List aj))(hl:v.length≤1048576)(hr:∀x∈v,rec x.J=some x.J):
  ∀(kk i:Nat)(a:List aj),v.length-i<kk→i≤v.length→a.length≤i→Lw m v rec kk a (i:Int)=some (a++v.drop i):=by
 intro kk
 induction kk with
 |zero=>intro i a h;omega
 |succ kk ih=>
  intro i a h hi ha;rw[Lw];by_cases h1:i<v.length
  ·rw[ct h1,aB,bR h1,hr _ (fY h1),aF,bz (by unfold ln;simp only[cN,dn];omega),lt_eq,bG (by omega),ih (i+1) _ (by omega) (by omega) (by simp only[ee,cN,dn];omega),fv h1,fh v i h1,eta];simp only[mG];rfl
  ·rw[cq (by omega),aG,gR (by omega),List.append_nil]
theorem adL(m:Nat)(hm:1048577<m):∀(k:Nat)(v:List aj),cj v<k→cj v≤1048576→E8 m k v=some v:=by
 intro k
 induction k with
 |zero=>intro v h;omega
 |succ k ih=>
  intro v h hb;have hl:=jz v;have hn:=adK m v (E8 m k) (by omega) (λx hx=>by
   have h1:=kM hx;have h2:=lB x;exact ih _ (by omega) (by omega)) m 0 [] (by omega) (by omega) (by simp)
  rw[E8];rw[show(0:Int)=((0:Nat):Int)from rfl,hn,aF,du,List.nil_append]
theorem a18(v:List aj)(h:cj v≤1048576):P9 FU v=some v:=adL FU (by decide) FU v (by unfold FU;omega) h
theorem a19(w:ag)(l:List aj):(ln (ry w l)==0)=true∨(ry w l).length=(fg w).length:=by
 unfold ry;cases hn:(ln (cond (w==h9) (pt l) [l]) !=ln (fg w))
 ·rw[aG];cases yJ (fg w) (cond (w==h9) (pt l) [l]) 0 (fg w).length
  ·exact Or.inl rfl
  ·right;have:=bne_eq_false_iff_eq.1 hn;unfold ln at this;rw[aB];omega
 ·exact Or.inl rfl
theorem a1a(w:ag)(l:List aj)(wX:cj l≤1048576):∀x∈ry w l,cj x≤1048576:=by
 have hm:∀x∈cond (w==h9) (pt l) [l],cj x≤1048576:=by
  cases(w==h9)
  ·intro x hx;rw[List.mem_singleton.1 hx];exact wX
  ·exact a15 l wX
 unfold ry;cases(ln (cond (w==h9) (pt l) [l]) !=ln (fg w))
 ·rw[aG];cases yJ (fg w) (cond (w==h9) (pt l) [l]) 0 (fg w).length
  ·intro x hx;cases hx
  ·exact hm
 ·intro x hx;cases hx
theorem a1b(x:aj):x.ay.bU.length≤zV x:=by
 obtain⟨t,l⟩:=x;simp only[zV,zT,aj.ay];omega
def words:List ag:=[[105,110,105,116,105,97,108],[105,110,104,101,114,105,116],[117,110,115,101,116],[114,101,118,101,114,116]]
def LW:ag:=[114,101,118,101,114,116]
def LX:ag:=[117,110,115,101,116]
theorem adM(m:Nat)(s:ag)(hs:s.length≤1048576):∀(kk i:Nat)(b:List Int),s.length-i<kk→i≤s.length→∃r,CW m s kk (i:Int) b=some r:=by
 intro kk
 induction kk with
 |zero=>intro i b h;omega
 |succ kk ih=>
  intro i b h hi;have hl:(bw s).length=s.length:=by simp[bw]
  rw[CW];by_cases h1:i<s.length
  ·rw[ct (by rw[hl];exact h1),aB,bR (by rw[hl];exact h1),lt_eq,bG (by omega)];cases(cond (decide (65≤gi b (i:Int))) (decide (gi b (i:Int)≤90)) false)
   ·exact ih (i+1) _ (by omega) (by omega)
   ·exact ih (i+1) _ (by omega) (by omega)
  ·rw[cq (by rw[hl];omega),aG];exact⟨_,rfl⟩
theorem Vv(s:ag)(hs:s.length≤1048576):∃r,wA FU s=some r:=by
 obtain⟨r,h⟩:=adM FU s hs FU 0 (bw s) (by unfold FU;omega) (fT _);exact⟨eT r,by unfold wA;rw[show(0:Int)=((0:Nat):Int)from rfl,h];rfl⟩
def wid(v:List aj):ag:=(yh FU v).getD []
theorem a1c(x:ag):sY 64 words x=some (cond (x==[105,110,105,116,105,97,108]) true (cond (x==[105,110,104,101,114,105,116]) true (cond (x==LX) true (x==LW)))):=by
 rw[LL words x (by decide)];congr 1;exact Vm _ _ _ _ x
theorem a1d(v:List aj)(hv:cj v≤1048576):yh FU v=some (wid v)∧(wid v=[]∨wid v=[105,110,105,116,105,97,108]∨wid v=[105,110,104,101,114,105,116]∨wid v=LX∨wid v=LW):=by
 have key:∃w,yh FU v=some w∧(w=[]∨w=[105,110,105,116,105,97,108]∨w=[105,110,104,101,114,105,116]∨w=LX∨w=LW):=by
  unfold yh;by_cases h1:ln v=1
  ·have h0:0≤(0:Int)∧(0:Int)<ln v:=by omega
   rw[bz (λ_=>h0),lt_eq];cases hx:(cond (ln v==1) ((gi v (0:Int)).ay.a7==1) false)
   ·exact⟨[],rfl,Or.inl rfl⟩
   ·rw[aB,bz h0];have hm:gi v (0:Int)∈v:=fY (i:=0) (by unfold ln at h1;omega);have h2:=kM hm;have h3:(gi v (0:Int)).ay.bU.length≤1048576:=by have:=a1b (gi v (0:Int));omega
    obtain⟨r,hr⟩:=Vv _ h3;rw[hr,aF];show∃w,Option.bind (Option.bind (sY 64 words r) _) _=_∧_;rw[a1c,aF];cases b1:(r==([105,110,105,116,105,97,108]:ag))
    ·cases b2:(r==([105,110,104,101,114,105,116]:ag))
     ·cases b3:(r==LX)
      ·cases b4:(r==LW)
       ·exact⟨[],rfl,Or.inl rfl⟩
       ·exact⟨r,rfl,Or.inr (Or.inr (Or.inr (Or.inr (eq_of_beq b4))))⟩
      ·exact⟨r,rfl,Or.inr (Or.inr (Or.inr (Or.inl (eq_of_beq b3))))⟩
     ·exact⟨r,rfl,Or.inr (Or.inr (Or.inl (eq_of_beq b2)))⟩
    ·exact⟨r,rfl,Or.inr (Or.inl (eq_of_beq b1))⟩
  ·have hb:(ln v==1)=false:=by simpa using h1
   rw[hb,bz (λh=>by cases h),lt_eq];exact⟨[],rfl,Or.inl rfl⟩
 obtain⟨w,h1,h2⟩:=key;have e:wid v=w:=by unfold wid;rw[h1];rfl
 rw[e];exact⟨h1,h2⟩
def HN(s:ag):ag:=(wA FU s).getD []
theorem a1e(s:ag)(hs:s.length≤1048576):wA FU s=some (HN s):=by
 obtain⟨r,h⟩:=Vv s hs;unfold HN;rw[h];rfl
mutual
def vV:aj→Bool
 | .mk t l=>cond (t.a7==2) (HN t.bU==[118,97,114]) false||j2 l
def j2:List aj→Bool
 |[]=>false
 |x::r=>vV x||j2 r
end
theorem a1f(x:aj):vV x=(cond (x.ay.a7==2) (HN x.ay.bU==[118,97,114]) false||j2 x.J):=by obtain⟨t,l⟩:=x;rw[vV];rfl
theorem adN(rec:List aj→Option Bool)(x:aj)(hx:zV x≤1048576)(hr:rec x.J=some (j2 x.J)):K8 FU rec x=some (vV x):=by
 have hz:=LU x;unfold K8;rw[a1f];cases(x.ay.a7==2)
 ·rw[aG,aG,aF,lt_eq,hr];rfl
 ·rw[aB,aB,a1e _ (by omega),aF,lt_eq];cases(HN x.ay.bU==[118,97,114])
  ·rw[hr];rfl
  ·rfl
theorem adO(rec:List aj→Option Bool)(v:List aj)(hb:cj v≤1048576)(hr:∀x∈v,rec x.J=some (j2 x.J)):∀(kk i:Nat),v.length-i<kk→i≤v.length→
  (j2 (v.drop i)=true∧∃j:Nat,Ag FU rec v kk (i:Int)=some (.inl (j:Int)))∨(j2 (v.drop i)=false∧Ag FU rec v kk (i:Int)=some (.inr ())):=by
 have hl:=jz v;intro kk
 induction kk with
 |zero=>intro i h;omega
 |succ kk ih=>
  intro i h hi;rw[Ag];by_cases h1:i<v.length
  ·have hm:=fY h1;have hz:=kM hm;rw[ct h1,aB,bR h1,adN rec _ (by omega) (hr _ hm),aF,fv h1,j2,←fh v i h1];cases hh:vV (gi v (i:Int))
   ·rw[aG,o7,bG (by omega)];exact ih (i+1) (by omega) (by omega)
   ·left;exact⟨rfl,i,rfl⟩
  ·right;rw[cq (by omega),aG,gR (by omega),j2];exact⟨rfl,rfl⟩
theorem adP:∀(k:Nat)(v:List aj),cj v<k→cj v≤1048576→yg FU k v=some (j2 v):=by
 intro k
 induction k with
 |zero=>intro v h;omega
 |succ k ih=>
  intro v h hb;have hl:=jz v;rw[yg];unfold O9 O8;rcases adO (yg FU k) v hb (λx hx=>by
   have h1:=kM hx;have h2:=lB x;exact ih _ (by omega) (by omega)) FU 0 (by unfold FU;omega) (fT _)with⟨e,j,h1⟩|⟨e,h1⟩
  ·rw[du]at e;rw[show Ag FU (yg FU k) v FU 0=_ from h1,e,aF];dsimp only[bK];rw[aF,aF,cB (by omega)]
  ·rw[du]at e;rw[show Ag FU (yg FU k) v FU 0=_ from h1,e];rfl
theorem adQ(v:List aj)(hb:cj v≤1048576):SY FU v=some (j2 v):=adP FU v (by unfold FU;omega) hb
theorem adR(v:List aj):Aq FU [v] 1=some [v]:=by kernel_rfl
theorem adS(v:List aj):Aq FU [v] 4=some [v,v,v,v]:=by kernel_rfl
def fB(w:ag):Bool:=decide (0<ln (fg w))
def lM(d:cy):Bool:=cond (pF d.aO) true (cond (!(wid d.Value==[])) true (cond (j2 d.Value) true (cond (fB d.aO) false (wW d.aO d.Value))))
def sC(d:cy):LV:=cond (lM d) (List.replicate (gE d.aO).1.length d.Value) (cond (fB d.aO) (ry d.aO d.Value) [])
def whl(d:cy):ag:=cond (cond (fB d.aO) (j2 d.Value) false) d.aO []
def adT(d:cy):List ey:=List.zipWith (λn v=>ey.mk n v (whl d)) (gE d.aO).1 (sC d)
def Py(d:cy):List ey×Int:=cond (gN d.Value !=0) ([],gN d.Value) (cond ((gE d.aO).2 !=0) ([],(gE d.aO).2) (cond (ln (sC d)==0) ([],12) (adT d,0)))
theorem Vw(w:ag):(fB w=true∧gE w=(fg w,0))∨(fB w=false∧fg w=[]∧((gE w).2=0→(gE w).1=[w])):=by
 unfold fB gE fg;cases(w==h9)
 ·cases pH w
  ·right;refine⟨rfl,rfl,λh=>?_⟩;simp only[aG]at h⊢;cases hh:((wU w).2 !=0)
   ·rfl
   ·rw[hh]at h;cases h
  ·exact Or.inl ⟨rfl,rfl⟩
 ·exact Or.inl ⟨rfl,rfl⟩
theorem adU(w:ag)(h:fB w=true):(fg w).length=1∨(fg w).length=4:=by
 unfold fB fg at h;unfold fg;cases hm:(w==h9)
 ·rw[hm]at h;cases hs:pH w
  ·rw[hs]at h;cases h
  ·exact Or.inl rfl
 ·exact Or.inr rfl
theorem Vx(w:ag)(h:(gE w).2=0):(gE w).1.length=1∨(gE w).1.length=4:=by
 rcases Vw w with⟨h1,h2⟩|⟨h1,h2,h3⟩
 ·rw[h2];exact adU w h1
 ·rw[h3 h];exact Or.inl rfl
theorem adV(v:List aj)(n:Nat)(h:n=1∨n=4):Aq FU [v] ((n:Nat):Int)=some (List.replicate n v):=by
 rcases h with rfl|rfl
 ·exact adR v
 ·exact adS v
theorem adW(d:cy)(hv:cj d.Value≤1048576):∀x∈sC d,cj x≤1048576:=by
 unfold sC;cases lM d
 ·cases fB d.aO
  ·intro x hx;cases hx
  ·exact a1a d.aO d.Value hv
 ·intro x hx;rw[List.eq_of_mem_replicate hx];exact hv
theorem adX(d:cy)(h:(gE d.aO).2=0):(ln (sC d)==0)=true∨(sC d).length=(gE d.aO).1.length:=by
 unfold sC;cases lM d
 ·rcases Vw d.aO with⟨h1,h2⟩|⟨h1,h2,h3⟩
  ·rw[h1,h2];exact a19 d.aO d.Value
  ·rw[h1];exact Or.inl rfl
 ·right;rw[aB,List.length_replicate]
theorem adY(d:cy)(y:List ag)(cV:List ag)(b:Bool)(z:LV)(wh:ag)(hw:cond (cond (decide (0<ln cV)) b false) d.aO []=wh)(Vt:z.length=y.length)(hy:y.length≤10)(hz:∀x∈z,cj x≤1048576):∀(kk i:Nat)(v:List ey),y.length-i<kk→i≤y.length→v.length≤i→
  Gq FU d (y,0) cV b z kk v (i:Int)=some (v++List.zipWith (λn x=>ey.mk n x wh) (y.drop i) (z.drop i)):=by
 have hcw:(cond (cond (decide (0<ln cV)) b false) (some d.aO) (some []):Option ag)=some wh:=by
  rw[←hw];cases(cond (decide (0<ln cV)) b false)<;>rfl
 intro kk
 induction kk with
 |zero=>intro i v h;omega
 |succ kk ih=>
  intro i v h hi hv;rw[Gq];by_cases h1:i<y.length
  ·have h2:i<z.length:=by omega
   rw[ct h1,aB,bR h1,bR h2,show Tw FU (gi z (i:Int))=some (gi z (i:Int))from acL FU LP FU _ (by have:=hz _ (fY h2);unfold FU;omega) (hz _ (fY h2)),aF,hcw,aF,bz (by unfold ln;simp only[cN,dn];omega),lt_eq,bG (by omega),ih (i+1) _ (by omega) (by omega) (by simp only[ee,cN,dn];omega),fv h1,fv h2,List.zipWith_cons_cons,fh z i h2,mG];rw[show gi (y,(0:Int)).1 (i:Int)=y[i]from fh y i h1];rfl
  ·rw[show decide ((i:Int)<ln (y,(0:Int)).1)=false from cq (show y.length≤i by omega),aG,gR (show y.length≤i by omega)];simp
theorem adZ(d:cy)(hn:d.aO.length≤1048576)(hv:cj d.Value≤1048576):Ky FU d=some (Py d):=by
 unfold Ky Py;rw[Pl FU LP d.Value hv,aF];cases(gN d.Value !=0)
 rotate_left
 ·rfl
 rw[aG,aG,acM d.aO hn,aF];by_cases he:(gE d.aO).2=0
 rotate_left
 ·rw[show((gE d.aO).2 !=0)=true from bne_iff_ne.2 he];rfl
 rw[he,show((0:Int) !=0)=false from rfl,aG,aG,a10 d.aO hn,aF,adQ d.Value hv,aF,a0H d.aO,aF,(a1d d.Value hv).1,aF,(Px d.aO d.Value hv).1];have hz:(cond (pF d.aO) (some (pF d.aO)) (cond (!(wid d.Value==[])) (some (!(wid d.Value==[]))) (cond (j2 d.Value) (some (j2 d.Value)) (Option.bind (cond (!(decide (0<ln (fg d.aO)))) (some (wW d.aO d.Value)) (some default)) λjP=>lt (cond (!(decide (0<ln (fg d.aO)))) jP false) λoU=>some oU))):Option Bool)=some (lM d):=by
  unfold lM fB;cases pF d.aO<;>cases(!(wid d.Value==[]))<;>cases j2 d.Value<;>cases decide (0<ln (fg d.aO))<;>rfl
 rw[hz,aF];have ha:(cond (lM d) (Option.bind (Aq FU ([d.Value]:LV) (ln (gE d.aO).1)) λxS=>some xS) (cond (decide (0<ln (fg d.aO))) (Option.bind (Gn FU d.aO d.Value) λeX=>some eX) (some ([]:LV))):Option LV)=some (sC d):=by
  unfold sC;rw[(a17 d.aO d.Value hn hv).1,show Aq FU ([d.Value]:LV) (ln (gE d.aO).1)=_ from adV d.Value _ (Vx d.aO he)];unfold fB;cases lM d<;>cases decide (0<ln (fg d.aO))<;>rfl
 rw[ha,aF];rcases adX d he with h0|h0
 ·rw[h0];rfl
 ·have o1:(ln (sC d)==0)=false:=by
   have:=Vx d.aO he;exact bM.2 (by unfold ln;omega)
  have hl:=a0Q d.aO;have e:=adY d (gE d.aO).1 (fg d.aO) (j2 d.Value) (sC d) (whl d) rfl h0 (by omega) (adW d hv) FU 0 [] (by unfold FU;omega) (fT _) (fT _);rw[o1,aG,aG,show gE d.aO=((gE d.aO).1,0)from by rw[←he],show Gq FU d ((gE d.aO).1,0) (fg d.aO) (j2 d.Value) (sC d) FU [] 0=_ from e];rfl
theorem ae0(m:Nat)(s:ag):∀(kk:Nat)(i:Int)(l:List Int),CW m s kk i l=wQ m s kk i l:=by
 intro kk
 induction kk with
 |zero=>intro i l;rfl
 |succ kk ih=>
  intro i l;rw[CW,wQ];simp only[ih,a0R]
theorem a1g(m:Nat)(s:ag):wA m s=nQ m s:=by
 unfold wA nQ;rw[ae0]
theorem ae1(v:List aj)(hv:cj v≤1048576):Ld FU v=some (wid v):=by
 have e:yh FU v=some (wid v):=(a1d v hv).1;rw[←e];unfold Ld yh;by_cases h1:ln v=1
 ·have h0:0≤(0:Int)∧(0:Int)<ln v:=by omega
  rw[bz (λ_=>h0),lt_eq,bz (λ_=>h0),lt_eq,show(ln v==1)=true from by simp[h1],show(ln v !=1)=false from by simp[h1],aG,aB];cases hk:((gi v (0:Int)).ay.a7==1)
  ·rw[show((gi v (0:Int)).ay.a7 !=1)=true from by rw[bne,hk];rfl];rfl
  ·rw[show((gi v (0:Int)).ay.a7 !=1)=false from by rw[bne,hk];rfl,aG,aB,bz h0,bz h0];have hm:gi v (0:Int)∈v:=fY (i:=0) (by unfold ln at h1;omega);have h2:=kM hm;have h3:(gi v (0:Int)).ay.bU.length≤1048576:=by have:=a1b (gi v (0:Int));omega
   obtain⟨r,hr⟩:=Vv _ h3;rw[←a1g,hr,aF,aF];show _=Option.bind (Option.bind (sY 64 words r) _) _;rw[a1c,aF];simp only[lt_eq,LW,LX];cases(r==([105,110,105,116,105,97,108]:ag))<;>cases(r==([105,110,104,101,114,105,116]:ag))<;>cases(r==([117,110,115,101,116]:ag))<;>cases(r==([114,101,118,101,114,116]:ag))<;>rfl
 ·have hb:(ln v==1)=false:=by simpa using h1
  rw[hb,show(ln v !=1)=true from by simpa using h1,bz (λh=>by cases h),lt_eq,bz (λh=>by cases h),lt_eq];rfl
theorem ae2(rec:List aj→Option Bool)(v:List aj)(hb:cj v≤1048576)(hr:∀x∈v,rec x.J=some (j2 x.J)):∀(kk i:Nat),v.length-i<kk→i≤v.length→
  Hm FU v rec kk (i:Int)=some (cond (j2 (v.drop i)) (.inl true) (.inr ())):=by
 have hl:=jz v;intro kk
 induction kk with
 |zero=>intro i h;omega
 |succ kk ih=>
  intro i h hi;rw[Hm];by_cases h1:i<v.length
  ·have hm:=fY h1;have hz:=kM hm;have ht:=LU (gi v (i:Int));rw[ct h1,aB,bR h1,fv h1,j2,←fh v i h1,a1f,←a1g,a1e _ (by omega),hr _ hm,bG (by omega),ih (i+1) (by omega) (by omega)];cases((gi v (i:Int)).ay.a7==2)
   ·rw[aG,aG,aF,lt_eq,aG,aG,o7,aF,aG];cases j2 (gi v (i:Int)).J<;>rfl
   ·rw[aB,aB,aF,lt_eq,aB];cases(HN (gi v (i:Int)).ay.bU==[118,97,114])
    ·rw[aG,o7,aF,aG];cases j2 (gi v (i:Int)).J<;>rfl
    ·rfl
  ·rw[cq (by omega),aG,gR (by omega),j2];rfl
theorem ae3:∀(k:Nat)(v:List aj),cj v<k→cj v≤1048576→B0 FU k v=some (j2 v):=by
 intro k
 induction k with
 |zero=>intro v h;omega
 |succ k ih=>
  intro v h hb;have hl:=jz v;rw[B0,show Hm FU v (B0 FU k) FU 0=_ from ae2 (B0 FU k) v hb (λx hx=>by
   have h1:=kM hx;have h2:=lB x;exact ih _ (by omega) (by omega)) FU 0 (by unfold FU;omega) (fT _),du]
  cases j2 v<;>rfl
theorem a1h(v:List aj)(hb:cj v≤1048576):P5 FU v=some (j2 v):=ae3 FU v (by unfold FU;omega) hb
theorem ae4(d:cy)(y:List ag)(cV:List ag)(hy:y.length≤10)(hz:cj d.Value≤1048576):∀(kk i:Nat)(v:List ey),y.length-i<kk→i≤y.length→v.length≤i→∃q,Ea FU d (y,0) cV kk v (i:Int)=some q:=by
 intro kk
 induction kk with
 |zero=>intro i v h;omega
 |succ kk ih=>
  intro i v h hi hv;rw[Ea];by_cases h1:i<y.length
  ·rw[ct h1,aB,bR h1,a18 _ hz,aF,a1h _ hz];have e:∃s:ag,(Option.bind (cond (decide (0<ln cV)) (some (j2 d.Value)) (some default)) λqX=>cond (cond (decide (0<ln cV)) qX false) (some d.aO) (some []))=some s:=by
    cases decide (0<ln cV)<;>cases j2 d.Value<;>exact⟨_,rfl⟩
   obtain⟨s,hs⟩:=e;rw[hs,aF,bz (by unfold ln;simp only[cN,dn];omega),lt_eq,bG (by omega)];exact ih (i+1) _ (by omega) (by omega) (by simp only[ee,cN,dn];omega)
  ·rw[show decide ((i:Int)<ln (y,(0:Int)).1)=false from cq (show y.length≤i by omega),aG];exact⟨_,rfl⟩
theorem ae5(y:List ag)(z:LV)(Vt:z.length≤y.length)(hy:y.length≤10)(hz:∀x∈z,cj x≤1048576):∀(kk i:Nat)(v:List ey),z.length-i<kk→i≤z.length→v.length≤i→∃q,HE FU (y,0) z kk v (i:Int)=some q:=by
 intro kk
 induction kk with
 |zero=>intro i v h;omega
 |succ kk ih=>
  intro i v h hi hv;rw[HE];by_cases h1:i<z.length
  ·have h2:i<y.length:=by omega
   rw[ct h1,aB,bR h2,bR h1,a18 _ (hz _ (fY h1)),aF,bz (by unfold ln;simp only[cN,dn];omega),lt_eq,bG (by omega)];exact ih (i+1) _ (by omega) (by omega) (by simp only[ee,cN,dn];omega)
  ·rw[cq (by omega),aG];exact⟨_,rfl⟩
def Bc(d:cy):Bool:=(Py d).2==0
theorem ae6(d:cy)(hn:d.aO.length≤1048576)(hv:cj d.Value≤1048576):Gs FU d=some (Bc d):=by
 unfold Gs;rw[adZ d hn hv];rfl
theorem ae7(d:cy)(hn:d.aO.length≤1048576)(hv:cj d.Value≤1048576):HF FU d=some (Bc d):=by
 unfold HF Pb Bc Py;rw[a0O FU LP d.Value hv,aF];cases(gN d.Value !=0)
 rotate_left
 ·rfl
 rw[aG,aG,acN d.aO hn,aF];by_cases he:(gE d.aO).2=0
 rotate_left
 ·rw[show((gE d.aO).2 !=0)=true from bne_iff_ne.2 he];rfl
 rw[he,show((0:Int) !=0)=false from rfl,aG,aG,a11 d.aO hn,aF,a0I d.aO,aF,ae1 d.Value hv,a1h d.Value hv,(Px d.aO d.Value hv).2,(a17 d.aO d.Value hn hv).2];have hl:=a0Q d.aO;have hee:gE d.aO=((gE d.aO).1,0):=by rw[←he]
 obtain⟨q1,Pv⟩:=ae4 d (gE d.aO).1 (fg d.aO) (by omega) hv FU 0 [] (by unfold FU;omega) (fT _) (fT _);have ae8:Ea FU d (gE d.aO) (fg d.aO) FU [] 0=some q1:=by rw[hee];exact Pv
 have hc:(Option.bind (cond (pF d.aO) (some default) (some (wid d.Value))) λhQ=>Option.bind (cond (cond (pF d.aO) true (!(hQ==[]))) (some default) (some (j2 d.Value))) λfj=>
   lt (cond (cond (pF d.aO) true (!(hQ==[]))) true fj) λfC=>
   Option.bind (cond fC (some default) (cond (!(decide (0<ln (fg d.aO)))) (some (wW d.aO d.Value)) (some default))) λj9=>
   lt (cond fC true (cond (!(decide (0<ln (fg d.aO)))) j9 false)) λjL=>
   cond jL (Option.bind (Ea FU d (gE d.aO) (fg d.aO) FU ([]:List ey) 0) λ(vb:List ey)=>some (Sum.inl (vb,(0:Int)))) (some (.inr ())))=some (cond (lM d) (.inl (q1,0)) (.inr ())):=by
  rw[ae8];unfold lM fB;cases pF d.aO<;>cases hw:(!(wid d.Value==[]))<;>cases j2 d.Value<;>cases decide (0<ln (fg d.aO))<;>cases wW d.aO d.Value<;>simp only[aB,aG,aF,lt_eq,hw,fL,gS]<;>first|rfl|(rw[show(default:ag)=[]from rfl];rfl)
 rw[hc,aF];unfold sC;cases hz:lM d
 ·rw[aG,aG];dsimp only[bK];cases hL:decide (0<ln (fg d.aO))
  ·rw[show fB d.aO=false from hL];rfl
  ·rw[show fB d.aO=true from hL,fL,aG,aB,aF];have hlen:(ry d.aO d.Value).length≤(gE d.aO).1.length:=by
    rcases Vw d.aO with⟨h1,h2⟩|⟨h1,h2,h3⟩
    ·rw[h2];rcases a19 d.aO d.Value with h0|h0
     ·have:(ry d.aO d.Value).length=0:=by have:=eq_of_beq h0;unfold ln at this;omega
      omega
     ·exact Nat.le_of_eq h0
    ·rw[show fB d.aO=true from hL]at h1;cases h1
   obtain⟨q2,hq2⟩:=ae5 (gE d.aO).1 (ry d.aO d.Value) hlen (by omega) (a1a d.aO d.Value hv) FU 0 [] (by have:=a16 d.aO;unfold FU;omega) (fT _) (fT _);have ae9:HE FU (gE d.aO) (ry d.aO d.Value) FU [] 0=some q2:=by rw[hee];exact hq2
   rw[ae9,aF];cases(ln (ry d.aO d.Value)==0)<;>rfl
 ·rw[aB,aB];dsimp only[bK];rw[aF];have hp:(ln (List.replicate (gE d.aO).1.length d.Value)==0)=false:=by
   have:=Vx d.aO he;refine bM.2 ?_;unfold ln;rw[List.length_replicate];omega
  rw[hp];rfl
mutual
def zX:bo→Nat
 | .mk _ p c=>1+(tA p+1)+(c.length+1)+1
def gH:List bo→Nat
 |[]=>0
 |v::r=>zX v+gH r
def zP:dU→Nat
 | .mk t s=>(t.length+1)+(tD s+1)+1
def tA:List dU→Nat
 |[]=>0
 |v::r=>zP v+tA r
def zS:dw→Nat
 | .mk _ n _ v _ _ _ l=>1+(n.length+1)+1+(v.length+1)+1+(1+1+1)+1+(gH l+1)+1
def tD:List dw→Nat
 |[]=>0
 |v::r=>zS v+tD r
end
def zD(d:cy):Nat:=(d.aO.length+1)+(cj d.Value+1)+1+1
mutual
def zC:aP→Nat
 | .mk _ n _ d l=>1+(n.length+1)+1+zD d+(pc l+1)+1
def pc:List aP→Nat
 |[]=>0
 |v::r=>zC v+pc r
end
def nT:List cy→Nat
 |[]=>0
 |v::r=>zD v+nT r
def zNm(l:List ag):Nat:=(l.map λx=>x.length+1).sum+1
def ve:List (List ag)→Nat
 |[]=>0
 |v::r=>zNm v+ve r
mutual
def zR:bJ→Nat
 | .mk _ s d c n l=>1+(gH s+1)+(nT d+1)+zC c+(ve n+1)+(gO l+1)+1
def gO:List bJ→Nat
 |[]=>0
 |v::r=>zR v+gO r
end
def zO(s:jV):Nat:=1+((gO s.iq.bh+1)+1)+1
def vf:List jV→Nat
 |[]=>0
 |v::r=>zO v+vf r
theorem Vy:∀l:List bo,(l.map zX).sum+1=gH l+1
 |[]=>by rw[gH];rfl
 |v::r=>by have:=Vy r;rw[gH,List.map_cons,List.sum_cons];omega
theorem a1i:∀l:List dU,(l.map zP).sum+1=tA l+1
 |[]=>by rw[tA];rfl
 |v::r=>by have:=a1i r;rw[tA,List.map_cons,List.sum_cons];omega
theorem a1j:∀l:List dw,(l.map zS).sum+1=tD l+1
 |[]=>by rw[tD];rfl
 |v::r=>by have:=a1j r;rw[tD,List.map_cons,List.sum_cons];omega
theorem a1k:∀l:List aP,(l.map zC).sum+1=pc l+1
 |[]=>by rw[pc];rfl
 |v::r=>by have:=a1k r;rw[pc,List.map_cons,List.sum_cons];omega
theorem Vz:∀l:List bJ,(l.map zR).sum+1=gO l+1
 |[]=>by rw[gO];rfl
 |v::r=>by have:=Vz r;rw[gO,List.map_cons,List.sum_cons];omega
theorem a1l:∀l:List Int,(l.map λ_=>1).sum+1=l.length+1
 |[]=>rfl
 |v::r=>by have:=a1l r;rw[List.map_cons,List.sum_cons,cN];omega
theorem a1m(d:cy):(d.aO.length+1)+((d.Value.map zV).sum+1)+1+1=zD d:=by unfold zD;rw[Vg]
theorem a1n:∀l:List cy,(l.map λd=>(d.aO.length+1)+((d.Value.map zV).sum+1)+1+1).sum+1=nT l+1
 |[]=>rfl
 |v::r=>by have:=a1n r;rw[nT,List.map_cons,List.sum_cons,a1m];omega
theorem a1o:∀l:List (List ag),(l.map zNm).sum+1=ve l+1
 |[]=>rfl
 |v::r=>by have:=a1o r;rw[ve,List.map_cons,List.sum_cons];omega
end Go.Proofs.YtnjmihahnjohoaaGreatDoor
