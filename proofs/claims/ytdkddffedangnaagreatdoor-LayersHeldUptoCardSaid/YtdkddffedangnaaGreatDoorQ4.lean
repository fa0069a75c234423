/- The plain law, in plain Lean. -/
import Derived.Test.YtdkddffedangnaaGreatDoorQ2
import Derived.Test.YtdkddffedangnaaGreatDoorX
import Derived.Test.YtdkddffedangnaaGreatDoorWFd
import Derived.KernelRfl
import Derived.Test.YtdkddffedangnaaGreatDoorQ3
import Derived.Test.YtdkddffedangnaaGreatDoorRU
set_option linter.unusedVariables false
set_option maxRecDepth 100000
namespace Go.Proofs.YtdkddffedangnaaGreatDoor
open Go Go.V Go.RowKit
abbrev LP:=List (List a7)
def gx(l:LP)(i:Nat):List a7:=l.getD i default
def sw(l:LP)(i j:Nat):LP:=(l.set i (gx l j)).set j (gx l i)
theorem Zb{l:LP}{i:Nat}(h:i<l.length):gx l i=l[i]:=by simp[gx,List.getD_eq_getElem?_getD,h]
theorem a5m(l:LP)(i:Nat):gi l (i:Int)=gx l i:=rfl
theorem Sh(l:LP)(i:Nat)(x:List a7):cj l (i:Int) x=l.set i x:=rfl
theorem Si{l:LP}{i:Nat}(h:i<l.length):gx l i∈l:=by rw[Zb h];exact List.getElem_mem h
theorem a5n(l:LP)(i j:Nat):(sw l i j).length=l.length:=by simp[sw]
abbrev Pe(l l':LP):Prop:=l'.length=l.length∧l'.Perm l
theorem mZ(l:LP):Pe l l:=⟨rfl,List.Perm.refl _⟩
theorem Pe.tr{l1 l2 l3:LP}(h:Pe l1 l2)(h':Pe l2 l3):Pe l1 l3:=⟨h'.1.trans h.1,h'.2.trans h.2⟩
theorem tj{l:LP}{i j:Nat}(hi:i<l.length)(hj:j<l.length):Pe l (sw l i j):=⟨a5n ..,by rw[sw,Zb hi,Zb hj];exact List.set_set_perm hi hj⟩
theorem Pe.all{l l':LP}(h:Pe l l'){P:List a7→Prop}(hA:∀x∈l,P x):∀x∈l',P x:=λx hx=>hA x ((h.2.mem_iff).1 hx)
theorem lE{i:Nat}(h:0<i)(h':i<4611686018427387904):J ((i:Int)-1)=((i-1:Nat):Int):=by rw[na (by omega) (by omega)];omega
theorem n5{i j:Nat}(h:j≤i)(h':i<4611686018427387904):J ((i:Int)-(j:Int))=((i-j:Nat):Int):=by rw[na (by omega) (by omega)];omega
theorem pP{i j:Nat}(h:i+j<4611686018427387904):J ((i:Int)+(j:Int))=((i+j:Nat):Int):=by rw[na (by omega) (by omega)];omega
theorem GF{i:Nat}(h:i<4611686018427387904):J (i:Int)=(i:Int):=na (by omega) (by omega)
theorem hJ{β:Type}{c:Bool}{p:Prop}[Decidable p]{k:Option β}(h:c=true→p):az (c=true→p) k=k:=cd h
theorem dT{p:Prop}[Decidable p]{β:Type}{x y:β}(h:p):cond (decide p) x y=x:=by rw[kq h];rfl
theorem dF{p:Prop}[Decidable p]{β:Type}{x y:β}(h:¬p):cond (decide p) x y=y:=by rw[eK h];rfl
theorem dL{α β:Type}{l:List α}{i:Nat}{x y:β}(h:i<l.length):cond (decide ((i:Int)<ln l)) x y=x:=by rw[qw h];rfl
theorem dG{α β:Type}{l:List α}{i:Nat}{x y:β}(h:l.length≤i):cond (decide ((i:Int)<ln l)) x y=y:=by rw[mB h];rfl
theorem nT{β:Type}{x y:β}:cond (!true) x y=y:=rfl
theorem nF{β:Type}{x y:β}:cond (!false) x y=x:=rfl
theorem sK{n k:Nat}(h:n<k):∃q,k=q+1:=⟨k-1,by omega⟩
theorem xj{β:Type}{l:LP}{i j:Nat}{F:LP→Option β}(hi:i<l.length)(hj:j<l.length):(az (0≤(i:Int)∧(i:Int)<ln l)<|lt (cj l (i:Int) (gi l (j:Int))) λq=>az (0≤(j:Int)∧(j:Int)<ln q)<|lt (cj q (j:Int) (gi l (i:Int))) F)=F (sw l i j):=by
 rw[cd (by unfold ln;omega),lt_eq,cd (by unfold ln;rw[Sh,List.length_set];omega)];rfl
abbrev Cm(m:Nat)(sn:Mi)(ps:LP)(st:List bI)(P:List a7→Prop)(cf:List a7→List a7→Int):Prop:=∀a b,P a→P b→mW m a b sn ps st=some (cf a b)
section
variable (m:Nat) {sn:Mi} {ps:LP} {st:List bI} {P:List a7→Prop} {cf:List a7→List a7→Int} (hc:Cm m sn ps st P cf)
include hc
theorem yz{l:LP}(hA:∀x∈l,P x){i j:Nat}(hi:i<l.length)(hj:j<l.length):mW m (gi l (i:Int)) (gi l (j:Int)) sn ps st=some (cf (gx l i) (gx l j)):=hc _ _ (hA _ (Si hi)) (hA _ (Si hj))
theorem aiK(a:Nat):∀(j kk:Nat)(l:LP),j<kk→j<l.length→l.length<16777216→(∀x∈l,P x)→∃l',FZ m (a:Int) sn ps st kk l (j:Int)=some l'∧Pe l l':=by
 intro j
 induction j with
 |zero=>
  intro kk l hk hj hl hA;obtain⟨kk,rfl⟩:=sK ‹_<kk›;have hd:decide ((a:Int)<((0:Nat):Int))=false:=eK (by omega);rw[FZ,hJ (λh=>by rw[hd]at h;cases h),hJ (λh=>by rw[hd]at h;cases h),hd];exact⟨l,rfl,mZ l⟩
 |succ j ih=>
  intro kk l hk hj hl hA;obtain⟨kk,rfl⟩:=sK ‹_<kk›;have hw:J (((j+1:Nat):Int)-1)=(j:Int):=by rw[lE (by omega) (by omega)];rfl
  rw[FZ,hw,hJ (λ_=>by unfold ln;omega),hJ (λ_=>by unfold ln;omega)];cases decide ((a:Int)<((j+1:Nat):Int))with
  |false=>exact⟨l,rfl,mZ l⟩
  |true=>
   rw[bB,yz m hc hA hj (by omega),aN,lt_eq,bB];cases decide (cf (gx l (j+1)) (gx l j)<0)with
   |false=>exact⟨l,rfl,mZ l⟩
   |true=>
    rw[bB,cd (by unfold ln;omega),xj hj (by omega)];have hp:=tj (i:=j+1) (j:=j) hj (by omega);obtain⟨l',e,h1⟩:=ih kk (sw l (j+1) j) (by omega) (by rw[hp.1];omega) (by rw[hp.1];exact hl) (hp.all hA);exact⟨l',e,hp.tr h1⟩
theorem aiL(a b:Nat):∀(kk i:Nat)(l:LP),b-i<kk→b≤l.length→l.length<16777216→l.length<m→(∀x∈l,P x)→∃l',J4 m (a:Int) (b:Int) sn ps st kk l (i:Int)=some l'∧Pe l l':=by
 intro kk
 induction kk with
 |zero=>intro i l h;omega
 |succ kk ih=>
  intro i l hk hb hl hm hA;rw[J4];by_cases hi:i<b
  ·obtain⟨l1,e,h1⟩:=aiK m hc a i m l (by omega) (by omega) hl hA;rw[dT (by omega),e,aN,bQ (by omega)];obtain⟨l',e',h3⟩:=ih (i+1) l1 (by omega) (by rw[h1.1];exact hb) (by rw[h1.1];exact hl) (by rw[h1.1];exact hm) (h1.all hA);exact⟨l',e',h1.tr h3⟩
  ·rw[dF (by omega)];exact⟨l,rfl,mZ l⟩
theorem aiM(a b:Nat)(l:LP)(hb:b≤l.length)(hl:l.length<16777216)(hm:l.length+1<m)(hA:∀x∈l,P x)(ha:a≤b):∃l',Nc m l (a:Int) (b:Int) sn ps st=some l'∧Pe l l':=by
 rw[Nc,bQ (by omega)];exact aiL m hc a b m (a+1) l (by omega) hb hl (by omega) hA
end
theorem aiN(m b:Nat):∀(kk i j:Nat)(l:LP),j+1-i<kk→j<l.length→l.length<16777216→∃l',Ja m kk l (i:Int) (j:Int)=some l'∧Pe l l':=by
 intro kk
 induction kk with
 |zero=>intro i j l h;omega
 |succ kk ih=>
  intro i j l hk hj hl;rw[Ja];by_cases hi:i<j
  ·rw[dT (by omega),cd (by unfold ln;omega),xj (by omega) hj,bQ (by omega),lE (by omega) (by omega)];have hp:=tj (l:=l) (i:=i) (j:=j) (by omega) hj;obtain⟨l',e,h1⟩:=ih (i+1) (j-1) (sw l i j) (by omega) (by rw[hp.1];omega) (by rw[hp.1];exact hl);exact⟨l',e,hp.tr h1⟩
  ·rw[dF (by omega)];exact⟨l,rfl,mZ l⟩
theorem aiO(m a b:Nat)(sn:Mi)(ps:LP)(st:List bI)(l:LP)(lW:a<b)(hb:b≤l.length)(hl:l.length<16777216)(hm:l.length+1<m):∃l',Jb m l (a:Int) (b:Int) sn ps st=some l'∧Pe l l':=by
 rw[Jb,lE (by omega) (by omega)];exact aiN m b m a (b-1) l (by omega) (by omega) hl
section
variable (m:Nat) {sn:Mi} {ps:LP} {st:List bI} {P:List a7→Prop} {cf:List a7→List a7→Int} (hc:Cm m sn ps st P cf)
include hc
theorem Zc{l:LP}(hA:∀x∈l,P x){x y:Nat}(s:Int)(hx:x<l.length)(hy:y<l.length):
   ∃(p q:Nat)(s':Int),G1 m l (x:Int) (y:Int) s sn ps st=some ((p:Int),(q:Int),s',l)∧(p=x∧q=y∨p=y∧q=x):=by
 rw[G1,ej hy,ej hx,a5m,a5m,hc _ _ (hA _ (Si hy)) (hA _ (Si hx)),aN];cases decide (cf (gx l y) (gx l x)<0)
 ·exact⟨x,y,s,rfl,.inl ⟨rfl,rfl⟩⟩
 ·exact⟨y,x,_,rfl,.inr ⟨rfl,rfl⟩⟩
theorem Zd{l:LP}(hA:∀x∈l,P x){x y z:Nat}(s:Int)(hx:x<l.length)(hy:y<l.length)(hz:z<l.length):
   ∃(r:Nat)(s':Int),D4 m l (x:Int) (y:Int) (z:Int) s sn ps st=some ((r:Int),s',l)∧(r=x∨r=y∨r=z):=by
 obtain⟨p1,q1,s1,e1,h1⟩:=Zc m hc hA s hx hy;obtain⟨p2,q2,s2,e2,h2⟩:=Zc m hc hA (x:=q1) (y:=z) s1 (by omega) hz;obtain⟨p3,q3,s3,e3,h3⟩:=Zc m hc hA (x:=p1) (y:=p2) s2 (by omega) (by omega);refine⟨q3,s3,?_,by omega⟩;rw[D4,e1,aN,e2,aN,e3,aN]
theorem Ze{l:LP}(hA:∀x∈l,P x){x:Nat}(s:Int)(hx:0<x)(hy:x+1<l.length)(hl:l.length<16777216):
   ∃(r:Nat)(s':Int),G2 m l (x:Int) s sn ps st=some ((r:Int),s',l)∧x-1≤r∧r≤x+1:=by
 obtain⟨r,s',e,h⟩:=Zd m hc hA (x:=x-1) (y:=x) (z:=x+1) s (by omega) (by omega) hy;refine⟨r,s',?_,by omega⟩;rw[G2,lE hx (by omega),bQ (by omega),e,aN]
omit hc in
theorem NW{a b:Nat}(h:a≤b)(hb:b<16777216)(c:Nat)(h3:c≤3):J (J (Int.tdiv (J ((b:Int)-(a:Int))) 4)*(c:Int))=(((b-a)/4*c:Nat):Int):=by
 have hq:Int.tdiv (((b-a:Nat)):Int) 4=(((b-a)/4:Nat):Int):=rfl;have:(b-a)/4*c≤b-a:=by
  have:=Nat.mul_le_mul_left ((b-a)/4) h3;omega
 rw[n5 h (by omega),hq,na (x:=(((b-a)/4:Nat):Int)) (by omega) (by omega),na (by
   have:(0:Int)≤(((b-a)/4:Nat):Int)*(c:Int):=Int.mul_nonneg (by omega) (by omega);omega) (by
   have e:(((b-a)/4:Nat):Int)*(c:Int)=(((b-a)/4*c:Nat):Int):=(Int.natCast_mul ..).symm;rw[e];omega)]
 exact(Int.natCast_mul ..).symm
theorem aiP{l:LP}(hA:∀x∈l,P x){a b:Nat}(h:a+13≤b)(hb:b≤l.length)(hl:l.length<16777216):
   ∃(r:Nat)(s:Int),Nq m l (a:Int) (b:Int) sn ps st=some ((r:Int),s,l)∧a≤r∧r<b:=by
 have hB:b<16777216:=by omega
 have q1:=NW (a:=a) (b:=b) (by omega) hB 1 (by omega);have q2:=NW (a:=a) (b:=b) (by omega) hB 2 (by omega);have q3:=NW (a:=a) (b:=b) (by omega) hB 3 (by omega);have ad:∀c,c≤3→J ((a:Int)+(((b-a)/4*c:Nat):Int))=((a+(b-a)/4*c:Nat):Int):=λc hc=>pP (by
  have:=Nat.mul_le_mul_left ((b-a)/4) hc;omega)
 rw[Nq];rw[show((1:Int))=((1:Nat):Int)from rfl,show((2:Int))=((2:Nat):Int)from rfl,show((3:Int))=((3:Nat):Int)from rfl,q1,q2,q3];rw[lt_eq,lt_eq,lt_eq,ad 1 (by omega),ad 2 (by omega),ad 3 (by omega),n5 (by omega) (by omega),dT (by omega)];have fin:∀(r:Nat)(s:Int),a≤r→r<b→∃(r':Nat)(s':Int),(Option.bind (some ((r:Int),s,l)) λ(fC:Int×Int×LP)=>cond (fC.2.1==0) (some (fC.1,((1:Nat):Int),fC.2.2)) (cond (fC.2.1==12) (some (fC.1,((2:Nat):Int),fC.2.2)) (some (fC.1,0,fC.2.2))))=some ((r':Int),s',l)∧a≤r'∧r'<b:=by
  intro r s h1 h2;rw[aN];show∃(r':Nat)(s':Int),cond (s==0) (some ((r:Int),((1:Nat):Int),l)) (cond (s==12) (some ((r:Int),((2:Nat):Int),l)) (some ((r:Int),0,l)))=_∧_;cases s==0
  ·cases s==12
   ·exact⟨r,_,rfl,h1,h2⟩
   ·exact⟨r,_,rfl,h1,h2⟩
  ·exact⟨r,_,rfl,h1,h2⟩
 cases decide ((50:Int)≤((b-a:Nat):Int))
 ·rw[bh,aN];obtain⟨r,s,e,h1⟩:=Zd m hc hA (x:=a+(b-a)/4*1) (y:=a+(b-a)/4*2) (z:=a+(b-a)/4*3) 0 (by omega) (by omega) (by omega);show∃(r':Nat)(s':Int),Option.bind (Option.bind (D4 m l _ _ _ 0 sn ps st) _) _=_∧_;rw[e,aN];exact fin r s (by omega) (by omega)
 ·rw[bB];obtain⟨r1,s1,e1,h1⟩:=Ze m hc hA (x:=a+(b-a)/4*1) 0 (by omega) (by omega) hl;obtain⟨r2,s2,e2,h2⟩:=Ze m hc hA (x:=a+(b-a)/4*2) s1 (by omega) (by omega) hl;obtain⟨r3,s3,e3,h3⟩:=Ze m hc hA (x:=a+(b-a)/4*3) s2 (by omega) (by omega) hl;rw[e1,aN,e2,aN,e3,aN,aN];obtain⟨r,s,e,h4⟩:=Zd m hc hA (x:=r1) (y:=r2) (z:=r3) s3 (by omega) (by omega) (by omega);show∃(r':Nat)(s':Int),Option.bind (Option.bind (D4 m l _ _ _ s3 sn ps st) _) _=_∧_;rw[e,aN];exact fin r s (by omega) (by omega)
end
def TB:a7:=[0,1,2,2,3,3,3,3,4,4,4,4,4,4,4,4]++List.replicate 16 5++List.replicate 32 6++List.replicate 64 7++List.replicate 128 8
def tb(n:Nat):Nat:=(bU TB (n:Int)).toNat
theorem aiQ:((List.range 256).all λn=>decide (bU TB (n:Int)=(tb n:Int))&&decide (tb n≤8)&&(n==0||decide (2^(tb n)≤2*n)))=true:=by kernel_rfl
theorem GG{n:Nat}(h:n<256):bU TB (n:Int)=(tb n:Int)∧tb n≤8∧(0<n→2^(tb n)≤2*n):=by
 have:=List.all_eq_true.1 aiQ n (List.mem_range.2 h);simp only[Bool.and_eq_true,decide_eq_true_eq,Bool.or_eq_true,beq_iff_eq]at this;exact⟨this.1.1,this.1.2,λh=>this.2.resolve_left (by omega)⟩
def NX(z:Int×Int):Option Int:=az (0≤dc z.1∧dc z.1<ln TB)<|lt (bU TB (dc z.1)) λwC=>some (J (z.2+J wC))
theorem aiR(x:Int):R3 x=Option.bind (cond (decide (4294967296≤x)) (some (Int.fdiv x (2^32),32)) (some (x,0))) λ(z3:Int×Int)=>
  Option.bind (cond (decide (65536≤z3.1)) (some (Int.fdiv z3.1 (2^16),J (z3.2+16))) (some (z3.1,z3.2))) λ(dk:Int×Int)=>
  Option.bind (cond (decide (256≤dk.1)) (some (Int.fdiv dk.1 (2^8),J (dk.2+8))) (some (dk.1,dk.2))) NX:=by kernel_rfl
theorem Zf{z s:Nat}(h:z<256)(hs:s≤16):NX ((z:Int),(s:Int))=some ((s+tb z:Nat):Int):=by
 obtain⟨h1,h2,_⟩:=GG h;have hl:ln TB=((256:Nat):Int):=rfl;rw[NX,hl,a8b (x:=(z:Int)) (by omega) (by omega),cd (by omega),lt_eq,h1,na (x:=(tb z:Int)) (by omega) (by omega),na (by omega) (by omega)];rfl
theorem fd8(n:Nat):Int.fdiv (n:Int) (2^8)=((n/256:Nat):Int):=by
 rw[show((2:Int)^8)=256 from by decide,Int.fdiv_eq_ediv_of_nonneg _ (by omega)];omega
theorem aiS(n:Nat):Int.fdiv (n:Int) (2^16)=((n/65536:Nat):Int):=by
 rw[show((2:Int)^16)=65536 from by decide,Int.fdiv_eq_ediv_of_nonneg _ (by omega)];omega
theorem a5o{n:Nat}(h:n<16777216):∃y:Nat,J2 (n:Int)=some (y:Int)∧(0<n→2^y≤2*n)∧y≤24:=by
 rw[J2,aiR,dF (by omega),aN];by_cases h1:n<65536
 ·rw[show decide ((65536:Int)≤((n:Int),(0:Int)).1)=false from eK (by show¬(65536:Int)≤(n:Int);omega),bh,aN];by_cases h2:n<256
  ·rw[show decide ((256:Int)≤(((n:Int),(0:Int)).1,((n:Int),(0:Int)).2).1)=false from eK (by show¬(256:Int)≤(n:Int);omega),bh,aN];refine⟨tb n,?_,(GG h2).2.2,by have:=(GG h2).2.1;omega⟩;show Option.bind (NX ((n:Int),((0:Nat):Int))) _=_;rw[Zf h2 (by omega),Nat.zero_add];rfl
  ·rw[show decide ((256:Int)≤(((n:Int),(0:Int)).1,((n:Int),(0:Int)).2).1)=true from kq (by show(256:Int)≤(n:Int);omega),bB,aN];have h3:n/256<256:=by omega
   refine⟨8+tb (n/256),?_,λ_=>?_,by have:=(GG h3).2.1;omega⟩
   ·have e:(Int.fdiv (((n:Int),(0:Int)).1,((n:Int),(0:Int)).2).1 (2^8),J ((((n:Int),(0:Int)).1,((n:Int),(0:Int)).2).2+8))=(((n/256:Nat):Int),((8:Nat):Int)):=by
     show(Int.fdiv (n:Int) (2^8),J (0+8))=_;rw[fd8];rfl
    rw[e,Zf h3 (by omega)];rfl
   ·have:=(GG h3).2.2 (by omega);rw[Nat.pow_add];omega
 ·rw[show decide ((65536:Int)≤((n:Int),(0:Int)).1)=true from kq (by show(65536:Int)≤(n:Int);omega),bB,aN];have h3:n/65536<256:=by omega
  have e:(Int.fdiv ((n:Int),(0:Int)).1 (2^16),J (((n:Int),(0:Int)).2+16))=(((n/65536:Nat):Int),((16:Nat):Int)):=by
   show(Int.fdiv (n:Int) (2^16),J (0+16))=_;rw[aiS];rfl
  rw[e,show decide ((256:Int)≤((((n/65536:Nat):Int),((16:Nat):Int)):Int×Int).1)=false from eK (by show¬(256:Int)≤((n/65536:Nat):Int);omega),bh,aN];refine⟨16+tb (n/65536),?_,λ_=>?_,by have:=(GG h3).2.1;omega⟩
  ·show Option.bind (NX (((n/65536:Nat):Int),((16:Nat):Int))) _=_;rw[Zf h3 (by omega)];rfl
  ·have:=(GG h3).2.2 (by omega);rw[Nat.pow_add];omega
theorem aiT{n:Nat}(h0:0<n)(h:n<16777216):∃p:Nat,Nj (n:Int)=some (p:Int)∧0<p∧p≤2*n:=by
 obtain⟨y,e,h1,h2⟩:=a5o h;have h3:=h1 h0;refine⟨2^y,?_,Nat.pow_pos (by omega),h3⟩;rw[Nj,Ab (x:=(n:Int)) (by omega) (by omega),e,aN,cd (by omega),show((y:Int)).toNat=y from rfl,show Nat.min y 64=y from Nat.min_eq_left (by omega)];have e2:(1:Int)*2^y=((2^y:Nat):Int):=by rw[Int.one_mul,Int.natCast_pow];rfl
 rw[e2];clear e2 h1 e;generalize 2^y=z at h3⊢;rw[Ab (by omega) (by omega)]
theorem aiU(x:Int){p:Nat}(h:p<18446744073709551616):∃r:Nat,fZ .and .u64 x (p:Int)=(r:Int)∧r≤p:=by
 have hb:(BitVec.ofInt 64 (p:Int)).toNat=p:=by
  rw[show BitVec.ofInt 64 (p:Int)=BitVec.ofNat 64 p from BitVec.ofInt_natCast ..,BitVec.toNat_ofNat];exact Nat.mod_eq_of_lt (by omega)
 have hl:(BitVec.ofInt 64 x&&&BitVec.ofInt 64 (p:Int)).toNat≤p:=by
  rw[BitVec.toNat_and,hb];exact Nat.and_le_right
 refine⟨(BitVec.ofInt 64 x&&&BitVec.ofInt 64 (p:Int)).toNat,?_,hl⟩;show cI (((BitVec.ofInt 64 x&&&BitVec.ofInt 64 (p:Int)).toNat:Int))=_;exact Ab (by omega) (by omega)
theorem aiV(m:Nat){a b p:Nat}(h:a+8≤b)(amn:b<16777216)(hp0:0<p)(hp:p≤2*(b-a)):∀(kk i:Nat)(l:LP)(r:Int),a+(b-a)/4*2+2-i<kk→a≤i→b≤l.length→
   ∃l',J8 m (a:Int) (b:Int) (p:Int) kk l (i:Int) r=some l'∧Pe l l':=by
 intro kk
 induction kk with
 |zero=>intro i l r h;omega
 |succ kk ih=>
  intro i l r hk ha hb;have q2:=NW (a:=a) (b:=b) (by omega) (by omega) 2 (by omega);rw[J8,show((2:Int))=((2:Nat):Int)from rfl,q2,lt_eq,pP (by omega),bQ (by omega),lt_eq,n5 (by omega) (by omega)];by_cases hi:i≤a+(b-a)/4*2+1
  ·rw[show decide ((i:Int)≤((a+(b-a)/4*2+1:Nat):Int))=true from kq (by omega),bB,lt_eq];have e1:cI ((p:Int)-1)=((p-1:Nat):Int):=by rw[Ab (by omega) (by omega)];omega
   obtain⟨r2,e2,h2⟩:=aiU (Nk r).1 (p:=p-1) (by omega);rw[e1,e2,lt_eq,na (x:=(r2:Int)) (by omega) (by omega)];have hz:∃z:Nat,z<b-a∧cond (decide (((b-a:Nat):Int)≤(r2:Int))) (some (J ((r2:Int)-((b-a:Nat):Int)))) (some (r2:Int))=some (z:Int):=by
    by_cases hd:b-a≤r2
    ·exact⟨r2-(b-a),by omega,by rw[dT (by omega),n5 hd (by omega)]⟩
    ·exact⟨r2,by omega,by rw[dF (by omega)]⟩
   obtain⟨z,rT,Sj⟩:=hz;rw[Sj,aN,pP (by omega),cd (by unfold ln;omega),xj (by omega) (by omega)];have Zg:=tj (l:=l) (i:=i) (j:=a+z) (by omega) (by omega);obtain⟨l',e,h3⟩:=ih (i+1) (sw l i (a+z)) (Nk r).2 (by omega) (by omega) (by rw[a5n];exact hb);rw[bQ (by omega)];exact⟨l',e,Zg.tr h3⟩
  ·rw[show decide ((i:Int)≤((a+(b-a)/4*2+1:Nat):Int))=false from eK (by omega),bh];exact⟨l,rfl,mZ _⟩
theorem aiW(m:Nat){a b:Nat}(sn:Mi)(ps:LP)(st:List bI)(l:LP)(h:a+8≤b)(hb:b≤l.length)(hl:l.length<16777216)(hm:l.length+2<m):
   ∃l',J9 m l (a:Int) (b:Int) sn ps st=some l'∧Pe l l':=by
 have q2:=NW (a:=a) (b:=b) (by omega) (by omega) 2 (by omega);obtain⟨p,e,h1,h2⟩:=aiT (n:=b-a) (by omega) (by omega);rw[J9,show((2:Int))=((2:Nat):Int)from rfl,q2,n5 (by omega) (by omega),dT (by omega),e,aN,lt_eq,pP (by omega),lE (by omega) (by omega)];exact aiV m h (by omega) h1 h2 m _ l _ (by omega) (by omega) hb
section
variable (m:Nat) {sn:Mi} {ps:LP} {st:List bI} {P:List a7→Prop} {cf:List a7→List a7→Int} (hc:Cm m sn ps st P cf)
include hc
theorem aiX(b:Nat)(l:LP)(hb:b≤l.length)(hl:l.length<16777216)(hA:∀x∈l,P x):∀(kk i:Nat),b-i<kk→0<i→i≤b→∃i',Jc m (b:Int) sn ps st l kk (i:Int)=some ((i':Nat):Int)∧i≤i'∧i'≤b:=by
 intro kk
 induction kk with
 |zero=>intro i h;omega
 |succ kk ih=>
  intro i hk ha hi;have hw:J ((i:Int)-1)=((i-1:Nat):Int):=lE (by omega) (by omega);rw[Jc,hw];by_cases hd:i<b
  ·rw[hJ (λ_=>by unfold ln;omega),hJ (λ_=>by unfold ln;omega),dT (by omega),yz m hc hA (by omega) (by omega),aN,dT (by omega),lt_eq];cases !decide (cf (gx l i) (gx l (i-1))<0)with
   |true=>
    rw[bB,bQ (by omega)];obtain⟨i',e,h1,h2⟩:=ih (i+1) (by omega) (by omega) (by omega);exact⟨i',e,by omega,h2⟩
   |false=>exact⟨i,rfl,du _,hi⟩
  ·have l9:decide ((i:Int)<(b:Int))=false:=eK (by omega);rw[hJ (λh=>by rw[l9]at h;cases h),hJ (λh=>by rw[l9]at h;cases h),l9];exact⟨i,rfl,du _,hi⟩
theorem aiY:∀(j kk:Nat)(l:LP),j<kk→j<l.length→l.length<16777216→(∀x∈l,P x)→∃l',G4 m sn ps st kk l (j:Int)=some l'∧Pe l l':=by
 intro j
 induction j with
 |zero=>
  intro kk l hk hi hl hA;obtain⟨kk,rfl⟩:=sK ‹_<kk›;exact⟨l,rfl,mZ l⟩
 |succ j ih=>
  intro kk l hk hi hl hA;obtain⟨kk,rfl⟩:=sK ‹_<kk›;have hw:J (((j+1:Nat):Int)-1)=(j:Int):=by rw[lE (by omega) (by omega)];rfl
  rw[G4,dT (by omega),hw,cd (by unfold ln;omega),cd (by unfold ln;omega),yz m hc hA hi (by omega),aN];cases decide (cf (gx l (j+1)) (gx l j)<0)with
  |false=>exact⟨l,rfl,mZ l⟩
  |true=>
   have hp:=tj (i:=j+1) (j:=j) hi (by omega);obtain⟨l',e,h1⟩:=ih kk (sw l (j+1) j) (by omega) (by rw[hp.1];omega) (by rw[hp.1];exact hl) (hp.all hA);refine⟨l',?_,hp.tr h1⟩;rw[nT,lt_eq,cd (by unfold ln;rw[Sh,List.length_set];omega)];exact e
theorem aiZ(b z:Nat):∀(kk j:Nat)(l:LP),b-j<kk→0<j→b≤l.length→l.length<16777216→(∀x∈l,P x)→∃l',G5 m (b:Int) sn ps st (z:Int) kk l (j:Int)=some (.inr ((z:Int),l'))∧Pe l l':=by
 intro kk
 induction kk with
 |zero=>intro j l h;omega
 |succ kk ih=>
  intro j l hk hz hb hl hA;rw[G5];by_cases hd:j<b
  ·rw[dT (by omega),lE (by omega) (by omega),cd (by unfold ln;omega),cd (by unfold ln;omega),yz m hc hA (by omega) (by omega),aN];cases decide (cf (gx l j) (gx l (j-1))<0)with
   |false=>exact⟨l,rfl,mZ l⟩
   |true=>
    have hp:=tj (l:=l) (i:=j) (j:=j-1) (by omega) (by omega);obtain⟨l',e,h1⟩:=ih (j+1) (sw l j (j-1)) (by omega) (by omega) (by rw[hp.1];exact hb) (by rw[hp.1];exact hl) (hp.all hA);refine⟨l',?_,hp.tr h1⟩;rw[nT,lt_eq,cd (by unfold ln;rw[Sh,List.length_set];omega),bQ (by omega)];exact e
  ·rw[dF (by omega)];exact⟨l,rfl,mZ l⟩
theorem aj0(a b:Nat):∀(kk i c:Nat)(l:LP),5-c<kk→a<i→i≤b→b≤l.length→l.length<16777216→l.length+1<m→(∀x∈l,P x)→∃z,Jd m (a:Int) (b:Int) sn ps st kk l (i:Int) (c:Int)=some z∧Pe l (match z with| .inl r=>r.2| .inr l'=>l'):=by
 intro kk
 induction kk with
 |zero=>intro i c l h;omega
 |succ kk ih=>
  intro i c l hk ha hi hb hl hm hA;rw[Jd];by_cases hd:c<5
  ·rw[dT (by omega)];obtain⟨z,e,h1,h2⟩:=aiX m hc b l hb hl hA m i (by omega) (by omega) hi;rw[e,aN];by_cases hz:z=b
   ·subst hz;rw[beq_self_eq_true,bB];exact⟨_,rfl,mZ l⟩
   ·rw[show(((z:Nat):Int)==((b:Nat):Int))=false from yO.2 (by omega),bh,n5 (by omega) (by omega)];cases decide (((b-a:Nat):Int)<50)with
    |true=>exact⟨_,rfl,mZ l⟩
    |false=>
     have hw:J ((z:Int)-1)=((z-1:Nat):Int):=lE (by omega) (by omega);have hp:=tj (l:=l) (i:=z) (j:=z-1) (by omega) (by omega);rw[bh,hw,cd (by unfold ln;omega),xj (by omega) (by omega)];have S3:∃l2,cond (decide ((2:Int)≤J ((z:Int)-(a:Int)))) (G4 m sn ps st m (sw l z (z-1)) ((z-1:Nat):Int)) (some (sw l z (z-1)))=some l2∧Pe (sw l z (z-1)) l2:=by
      cases decide ((2:Int)≤J ((z:Int)-(a:Int)))
      ·exact⟨_,rfl,mZ _⟩
      ·exact aiY m hc (z-1) m _ (by omega) (by rw[hp.1];omega) (by rw[hp.1];exact hl) (hp.all hA)
     obtain⟨l2,e2,g1⟩:=S3;have p2:=hp.tr g1;rw[e2,aN];have S4:∃l3,cond (decide ((2:Int)≤J ((b:Int)-(z:Int)))) (G5 m (b:Int) sn ps st (z:Int) m l2 (J ((z:Int)+1))) (some (.inr ((z:Int),l2)))=(some (.inr ((z:Int),l3)):Option (Sum (Sum (Bool×LP) LP) (Int×LP)))∧Pe l2 l3:=by
      cases decide ((2:Int)≤J ((b:Int)-(z:Int)))
      ·exact⟨l2,rfl,mZ _⟩
      ·rw[bB,bQ (by omega)];exact aiZ m hc b z m (z+1) l2 (by omega) (by omega) (by rw[p2.1];exact hb) (by rw[p2.1];exact hl) (p2.all hA)
     obtain⟨l3,e3,g3⟩:=S4;have p3:=p2.tr g3;rw[e3,aN];obtain⟨y,e4,g4⟩:=ih z (c+1) l3 (by omega) (by omega) h2 (by rw[p3.1];exact hb) (by rw[p3.1];exact hl) (by rw[p3.1];exact hm) (p3.all hA);refine⟨y,?_,p3.tr g4⟩;rw[←e4,←bQ (by omega)];rfl
  ·rw[dF (by omega)];exact⟨_,rfl,mZ l⟩
theorem aj1{a b:Nat}{l:LP}(lW:a<b)(hb:b≤l.length)(hl:l.length<16777216)(hm:l.length+6<m)(hA:∀x∈l,P x):∃r l',Je m l (a:Int) (b:Int) sn ps st=some (r,l')∧Pe l l':=by
 obtain⟨z,e,h⟩:=aj0 m hc a b m (a+1) 0 l (by omega) (by omega) (by omega) hb hl (by omega) hA;rw[Je,bQ (by omega),show(0:Int)=((0:Nat):Int)from rfl,e,aN];cases z with
 |inl r=>exact⟨r.1,r.2,rfl,h⟩
 |inr l'=>exact⟨false,l',rfl,h⟩
end
theorem fng{m:Nat}(F:Nat→Int→Option Int)(t:Nat→Bool){j:Nat}(hF:∀kk i:Nat,i≤j→F (kk+1) (i:Int)=cond (t i) (F kk ((i+1:Nat):Int)) (some (i:Int)))(hE:∀kk:Nat,F (kk+1) ((j+1:Nat):Int)=some ((j+1:Nat):Int)):∀(kk i:Nat),j+1-i<kk→i≤j+1→∃i':Nat,F kk (i:Int)=some (i':Int)∧i≤i'∧i'≤j+1∧(i'≤j→t i'=false):=by
 intro kk
 induction kk with
 |zero=>intro i h;omega
 |succ kk ih=>
  intro i hk hi;by_cases hd:i≤j
  ·rw[hF kk i hd];cases ht:t i with
   |true=>
    obtain⟨i',e,h1,h2,h3⟩:=ih (i+1) (by omega) (by omega);exact⟨i',e,by omega,h2,h3⟩
   |false=>exact⟨i,rfl,du _,hi,λ_=>ht⟩
  ·rw[show i=j+1 by omega];exact⟨j+1,hE kk,du _,du _,λh=>by omega⟩
theorem a5p(F:Nat→Int→Option Int)(t:Nat→Bool){i n:Nat}(Sk:0<i)(hF:∀kk j:Nat,i≤j→j<n→F (kk+1) (j:Int)=cond (t j) (F kk ((j-1:Nat):Int)) (some (j:Int)))(hE:∀kk:Nat,F (kk+1) ((i-1:Nat):Int)=some ((i-1:Nat):Int)):∀(kk j:Nat),j+1-i<kk→i≤j+1→j<n→∃j':Nat,F kk (j:Int)=some (j':Int)∧i≤j'+1∧j'≤j∧(i≤j'→t j'=false):=by
 intro kk
 induction kk with
 |zero=>intro j h;omega
 |succ kk ih=>
  intro j hk hi hj;by_cases hd:i≤j
  ·rw[hF kk j hd hj];cases ht:t j with
   |true=>
    obtain⟨j',e,h1,h2,h3⟩:=ih (j-1) (by omega) (by omega) (by omega);exact⟨j',e,h1,by omega,h3⟩
   |false=>exact⟨j,rfl,hi,du _,λ_=>ht⟩
  ·rw[show j=i-1 by omega];exact⟨i-1,hE kk,by omega,du _,λh=>by omega⟩
section
variable (m:Nat) {sn:Mi} {ps:LP} {st:List bI}
theorem aj2(a b:Int)(l:LP):∀(kk:Nat)(i:Int),Ji m a b sn ps st l kk i=zF m a sn ps st l (J (b-1)) kk i:=by
 intro kk
 induction kk with
 |zero=>intro i;rfl
 |succ kk ih=>intro i;rw[Ji,zF,ih]
theorem aj3(a:Int)(l:LP)(z:Int):∀(kk:Nat)(i:Int),Jj m a sn ps st l z kk i=zG m a sn ps st l z kk i:=by
 intro kk
 induction kk with
 |zero=>intro i;rfl
 |succ kk ih=>intro i;rw[Jj,zG,ih]
variable {P:List a7→Prop} {cf:List a7→List a7→Int} (hc:Cm m sn ps st P cf)
include hc
theorem a5q{a:Nat}{l:LP}(ha:a<l.length)(hl:l.length<16777216)(hA:∀x∈l,P x)(j:Nat)(hj:j<l.length):∀(kk i:Nat),j+1-i<kk→i≤j+1→∃i':Nat,zF m (a:Int) sn ps st l (j:Int) kk (i:Int)=some (i':Int)∧i≤i'∧i'≤j+1∧(i'≤j→decide (cf (gx l i') (gx l a)<0)=false):=
 fng (m:=m) (λkk i=>zF m (a:Int) sn ps st l (j:Int) kk i) (λi=>decide (cf (gx l i) (gx l a)<0)) (λkk i hi=>by
  rw[zF,hJ (λ_=>by unfold ln;omega),hJ (λ_=>by unfold ln;omega),dT (by omega),yz m hc hA (by omega) ha,aN,dT (by omega),lt_eq,bQ (by omega)]) (λkk=>by
  have l9:decide (((j+1:Nat):Int)≤(j:Int))=false:=eK (by omega);rw[zF,hJ (λh=>by rw[l9]at h;cases h),hJ (λh=>by rw[l9]at h;cases h),l9];rfl)
theorem a5r{a:Nat}{l:LP}(ha:a<l.length)(hl:l.length<16777216)(hA:∀x∈l,P x)(i:Nat)(Sk:0<i):∀(kk j:Nat),j+1-i<kk→i≤j+1→j<l.length→∃j':Nat,zG m (a:Int) sn ps st l (i:Int) kk (j:Int)=some (j':Int)∧i≤j'+1∧j'≤j∧(i≤j'→(!decide (cf (gx l j') (gx l a)<0))=false):=
 a5p (λkk j=>zG m (a:Int) sn ps st l (i:Int) kk j) (λj=>!decide (cf (gx l j) (gx l a)<0)) Sk (λkk j h1 h2=>by
  rw[zG,hJ (λ_=>by unfold ln;omega),hJ (λ_=>by unfold ln;omega),dT (by omega),yz m hc hA h2 ha,aN,dT (by omega),lt_eq,lE (by omega) (by omega)]) (λkk=>by
  have l9:decide ((i:Int)≤((i-1:Nat):Int))=false:=eK (by omega);rw[zG,hJ (λh=>by rw[l9]at h;cases h),hJ (λh=>by rw[l9]at h;cases h),l9];rfl)
theorem aj4{a b:Nat}:∀(kk i j:Nat)(l:LP),j+1-i<kk→a<i→i≤j+1→j<b→b≤l.length→l.length<16777216→l.length+1<m→(∀x∈l,P x)→∃(q:Nat)(l':LP),Jl m (a:Int) sn ps st kk l (i:Int) (j:Int)=some ((q:Int),l')∧a≤q∧q<b∧Pe l l':=by
 intro kk
 induction kk with
 |zero=>intro i j l h;omega
 |succ kk ih=>
  intro i j l hk ha dP hj hb hl hm hA;rw[Jl];obtain⟨i1,e1,h1,h2,h4⟩:=a5q m hc (a:=a) (l:=l) (by omega) hl hA j (by omega) m i (by omega) dP;obtain⟨j1,e2,g1,g2,g4⟩:=a5r m hc (a:=a) (l:=l) (by omega) hl hA i1 (by omega) m j (by omega) (by omega) (by omega);rw[e1,aN,e2,aN];by_cases hd:j1<i1
  ·rw[dT (by omega)];exact⟨j1,l,rfl,by omega,by omega,mZ l⟩
  ·have hQ:i1≠j1:=λe=>by
    have x1:=h4 (by omega);have x2:=g4 (by omega);rw[e]at x1;rw[x1]at x2;cases x2
   have hp:=tj (l:=l) (i:=i1) (j:=j1) (by omega) (by omega);rw[dF (by omega),cd (by unfold ln;omega),xj (by omega) (by omega),bQ (by omega),lE (by omega) (by omega)];obtain⟨q,l',e,r1,r2,r3⟩:=ih (i1+1) (j1-1) (sw l i1 j1) (by omega) (by omega) (by omega) (by omega) (by rw[hp.1];exact hb) (by rw[hp.1];exact hl) (by rw[hp.1];exact hm) (hp.all hA);exact⟨q,l',e,r1,r2,hp.tr r3⟩
theorem aj5{a b p:Nat}{l:LP}(lW:a+2≤b)(hb:b≤l.length)(hl:l.length<16777216)(hm:l.length+1<m)(GH:p<b)(hA:∀x∈l,P x):∃(q:Nat)(r:Bool)(l':LP),Nt m l (a:Int) (b:Int) (p:Int) sn ps st=some ((q:Int),r,l')∧a≤q∧q<b∧Pe l l':=by
 have hp:=tj (l:=l) (i:=a) (j:=p) (by omega) (by omega);rw[Nt,cd (by unfold ln;omega),xj (by omega) (by omega),aj2,bQ (by omega),lE (by omega) (by omega)];have Sm:=hp.all hA;have hl1:=hp.1;generalize sw l a p=l1 at hp Sm hl1;obtain⟨i1,e1,h1,h2,h4⟩:=a5q m hc (a:=a) (l:=l1) (by omega) (by omega) Sm (b-1) (by omega) m (a+1) (by omega) (by omega);obtain⟨j1,e2,g1,g2,g4⟩:=a5r m hc (a:=a) (l:=l1) (by omega) (by omega) Sm i1 (by omega) m (b-1) (by omega) (by omega) (by omega);rw[e1,aN,aj3,e2,aN];by_cases hd:j1<i1
 ·rw[dT (by omega),cd (by unfold ln;omega),xj (by omega) (by omega)];exact⟨j1,true,_,rfl,by omega,by omega,hp.tr (tj (by omega) (by omega))⟩
 ·have hQ:i1≠j1:=λe=>by
   have x1:=h4 (by omega);have x2:=g4 (by omega);rw[e]at x1;rw[x1]at x2;cases x2
  have GH:=tj (l:=l1) (i:=i1) (j:=j1) (by omega) (by omega);rw[dF (by omega),cd (by unfold ln;omega),xj (by omega) (by omega),bQ (by omega),lE (by omega) (by omega)];obtain⟨q,l',e,r1,r2,r3⟩:=aj4 m hc (a:=a) (b:=b) m (i1+1) (j1-1) (sw l1 i1 j1) (by omega) (by omega) (by omega) (by omega) (by rw[GH.1];omega) (by rw[GH.1];omega) (by rw[GH.1];omega) (GH.all Sm);have p3:=(hp.tr GH).tr r3;have:=p3.1;rw[e,aN];dsimp only;rw[cd (by unfold ln;omega),xj (by omega) (by omega)];exact⟨q,false,_,rfl,r1,r2,p3.tr (tj (by omega) (by omega))⟩
theorem aj6{a:Nat}{l:LP}(ha:a<l.length)(hl:l.length<16777216)(hA:∀x∈l,P x)(j:Nat)(hj:j<l.length):∀(kk i:Nat),j+1-i<kk→i≤j+1→∃i':Nat,D6 m (a:Int) sn ps st l (j:Int) kk (i:Int)=some (i':Int)∧i≤i'∧i'≤j+1∧(i'≤j→(!decide (cf (gx l a) (gx l i')<0))=false):=
 fng (m:=m) (λkk i=>D6 m (a:Int) sn ps st l (j:Int) kk i) (λi=>!decide (cf (gx l a) (gx l i)<0)) (λkk i hi=>by
  rw[D6,hJ (λ_=>by unfold ln;omega),hJ (λ_=>by unfold ln;omega),dT (by omega),yz m hc hA ha (by omega),aN,dT (by omega),lt_eq,bQ (by omega)]) (λkk=>by
  have l9:decide (((j+1:Nat):Int)≤(j:Int))=false:=eK (by omega);rw[D6,hJ (λh=>by rw[l9]at h;cases h),hJ (λh=>by rw[l9]at h;cases h),l9];rfl)
theorem aj7{a:Nat}{l:LP}(ha:a<l.length)(hl:l.length<16777216)(hA:∀x∈l,P x)(i:Nat)(Sk:0<i):∀(kk j:Nat),j+1-i<kk→i≤j+1→j<l.length→∃j':Nat,D7 m (a:Int) sn ps st l (i:Int) kk (j:Int)=some (j':Int)∧i≤j'+1∧j'≤j∧(i≤j'→decide (cf (gx l a) (gx l j')<0)=false):=
 a5p (λkk j=>D7 m (a:Int) sn ps st l (i:Int) kk j) (λj=>decide (cf (gx l a) (gx l j)<0)) Sk (λkk j h1 h2=>by
  rw[D7,hJ (λ_=>by unfold ln;omega),hJ (λ_=>by unfold ln;omega),dT (by omega),yz m hc hA ha h2,aN,dT (by omega),lt_eq,lE (by omega) (by omega)]) (λkk=>by
  have l9:decide ((i:Int)≤((i-1:Nat):Int))=false:=eK (by omega);rw[D7,hJ (λh=>by rw[l9]at h;cases h),hJ (λh=>by rw[l9]at h;cases h),l9];rfl)
theorem aj8{a b:Nat}:∀(kk i j:Nat)(l:LP),j+1-i<kk→a<i→i≤j+1→j<b→b≤l.length→l.length<16777216→l.length+1<m→(∀x∈l,P x)→∃(q:Nat)(l':LP),Jg m (a:Int) sn ps st kk l (i:Int) (j:Int)=some ((q:Int),l')∧a<q∧q≤b∧Pe l l':=by
 intro kk
 induction kk with
 |zero=>intro i j l h;omega
 |succ kk ih=>
  intro i j l hk ha dP hj hb hl hm hA;rw[Jg];obtain⟨i1,e1,h1,h2,h4⟩:=aj6 m hc (a:=a) (l:=l) (by omega) hl hA j (by omega) m i (by omega) dP;obtain⟨j1,e2,g1,g2,g4⟩:=aj7 m hc (a:=a) (l:=l) (by omega) hl hA i1 (by omega) m j (by omega) (by omega) (by omega);rw[e1,aN,e2,aN];by_cases hd:j1<i1
  ·rw[dT (by omega)];exact⟨i1,l,rfl,by omega,by omega,mZ l⟩
  ·have hQ:i1≠j1:=λe=>by
    have x1:=h4 (by omega);have x2:=g4 (by omega);rw[←e]at x2;rw[x2]at x1;cases x1
   have hp:=tj (l:=l) (i:=i1) (j:=j1) (by omega) (by omega);rw[dF (by omega),cd (by unfold ln;omega),xj (by omega) (by omega),bQ (by omega),lE (by omega) (by omega)];obtain⟨q,l',e,r1,r2,r3⟩:=ih (i1+1) (j1-1) (sw l i1 j1) (by omega) (by omega) (by omega) (by omega) (by rw[hp.1];exact hb) (by rw[hp.1];exact hl) (by rw[hp.1];exact hm) (hp.all hA);exact⟨q,l',e,r1,r2,hp.tr r3⟩
theorem aj9{a b p:Nat}{l:LP}(lW:a+2≤b)(hb:b≤l.length)(hl:l.length<16777216)(hm:l.length+1<m)(GH:p<b)(hA:∀x∈l,P x):∃(q:Nat)(l':LP),Nr m l (a:Int) (b:Int) (p:Int) sn ps st=some ((q:Int),l')∧a<q∧q≤b∧Pe l l':=by
 have hp:=tj (l:=l) (i:=a) (j:=p) (by omega) (by omega);rw[Nr,cd (by unfold ln;omega),xj (by omega) (by omega),bQ (by omega),lE (by omega) (by omega)];obtain⟨q,l',e,r1,r2,r3⟩:=aj8 m hc (a:=a) (b:=b) m (a+1) (b-1) (sw l a p) (by omega) (by omega) (by omega) (by omega) (by rw[hp.1];exact hb) (by rw[hp.1];exact hl) (by rw[hp.1];exact hm) (hp.all hA);rw[e,aN];exact⟨q,l',rfl,r1,r2,hp.tr r3⟩
end
theorem kid{r:Nat}(h:r<1000000000):J (J (2*(r:Int))+1)=((2*r+1:Nat):Int):=by
 rw[na (x:=2*(r:Int)) (by omega) (by omega),na (by omega) (by omega)];rfl
section
variable (m:Nat) {sn:Mi} {ps:LP} {st:List bI} {P:List a7→Prop} {cf:List a7→List a7→Int} (hc:Cm m sn ps st P cf)
include hc
theorem a5s(F n:Nat):∀(kk r:Nat)(l:LP),n+1-r<kk→r≤n→F+n≤l.length→l.length<16777216→(∀x∈l,P x)→∃l',G0 m (n:Int) (F:Int) sn ps st kk l (r:Int)=some l'∧Pe l l':=by
 intro kk
 induction kk with
 |zero=>intro r l h;omega
 |succ kk ih=>
  intro r l hk hr hF hl hA;rw[G0,kid (by omega),lt_eq];by_cases hd:n≤2*r+1
  ·rw[dT (by omega)];exact⟨l,rfl,mZ l⟩
  ·rw[dF (by omega),bQ (by omega),lt_eq,pP (i:=F) (j:=2*r+1) (by omega),bQ (i:=F+(2*r+1)) (by omega),pP (i:=F) (j:=r) (by omega)];have hz:∃z:Nat,r<z∧z<n∧
      (az (decide (((2*r+1+1:Nat):Int)<(n:Int))=true→0≤((F+(2*r+1):Nat):Int)∧((F+(2*r+1):Nat):Int)<ln l)<|
       az (decide (((2*r+1+1:Nat):Int)<(n:Int))=true→0≤((F+(2*r+1)+1:Nat):Int)∧((F+(2*r+1)+1:Nat):Int)<ln l)<|
       Option.bind (cond (decide (((2*r+1+1:Nat):Int)<(n:Int))) (mW m (gi l ((F+(2*r+1):Nat):Int)) (gi l ((F+(2*r+1)+1:Nat):Int)) sn ps st) (some default)) λaW=>
       cond (cond (decide (((2*r+1+1:Nat):Int)<(n:Int))) (decide (aW<0)) false) (some ((2*r+1+1:Nat):Int)) (some ((2*r+1:Nat):Int)))=some (z:Int):=by
    by_cases h2:2*r+1+1<n
    ·rw[hJ (λ_=>by unfold ln;omega),hJ (λ_=>by unfold ln;omega),dT (by omega),yz m hc hA (by omega) (by omega),aN,dT (by omega)];cases decide (cf (gx l (F+(2*r+1))) (gx l (F+(2*r+1)+1))<0)
     ·exact⟨2*r+1,by omega,by omega,rfl⟩
     ·exact⟨2*r+1+1,by omega,h2,rfl⟩
    ·have hf:decide (((2*r+1+1:Nat):Int)<(n:Int))=false:=eK (by omega);rw[hJ (λh=>by rw[hf]at h;cases h),hJ (λh=>by rw[hf]at h;cases h),hf];exact⟨2*r+1,by omega,by omega,rfl⟩
   obtain⟨z,rT,Sj,hz4⟩:=hz;rw[hz4,aN,pP (i:=F) (j:=z) (by omega),cd (by unfold ln;omega),cd (by unfold ln;omega),yz m hc hA (by omega) (by omega),aN];cases decide (cf (gx l (F+r)) (gx l (F+z))<0)with
   |false=>exact⟨l,rfl,mZ l⟩
   |true=>
    have hp:=tj (l:=l) (i:=F+r) (j:=F+z) (by omega) (by omega);obtain⟨l',e,g1⟩:=ih z (sw l (F+r) (F+z)) (by omega) (by omega) (by rw[hp.1];exact hF) (by rw[hp.1];exact hl) (hp.all hA);refine⟨l',?_,hp.tr g1⟩;rw[nT,lt_eq,cd (by unfold ln;rw[Sh,List.length_set];omega)];exact e
theorem aja(F n:Nat):∀(kk t:Nat)(l:LP),t<kk→t≤n→F+n≤l.length→l.length<16777216→l.length+2<m→(∀x∈l,P x)→∃l',J6 m (F:Int) ((F+n:Nat):Int) sn ps st kk l ((t:Int)-1)=some l'∧Pe l l':=by
 intro kk
 induction kk with
 |zero=>intro t l h;omega
 |succ kk ih=>
  intro t l hk ht hF hl hm hA;rw[J6];cases t with
  |zero=>exact⟨l,rfl,mZ l⟩
  |succ t=>
   rw[show((t+1:Nat):Int)-1=(t:Int) by omega,dT (by omega),n5 (by omega) (by omega),show F+n-F=n by omega];obtain⟨l1,e1,h1⟩:=a5s m hc F n m t l (by omega) (by omega) hF hl hA;rw[J5,e1,aN,na (x:=(t:Int)-1) (by omega) (by omega)];obtain⟨l2,e2,h3⟩:=ih t l1 (by omega) (by omega) (by rw[h1.1];exact hF) (by rw[h1.1];exact hl) (by rw[h1.1];exact hm) (h1.all hA);exact⟨l2,e2,h1.tr h3⟩
theorem ajb(F n:Nat):∀(kk t:Nat)(l:LP),t<kk→t≤n→F+n≤l.length→l.length<16777216→l.length+2<m→(∀x∈l,P x)→∃l',J7 m (F:Int) sn ps st kk l ((t:Int)-1)=some l'∧Pe l l':=by
 intro kk
 induction kk with
 |zero=>intro t l h;omega
 |succ kk ih=>
  intro t l hk ht hF hl hm hA;rw[J7];cases t with
  |zero=>exact⟨l,rfl,mZ l⟩
  |succ t=>
   have hp:=tj (l:=l) (i:=F) (j:=F+t) (by omega) (by omega);rw[show((t+1:Nat):Int)-1=(t:Int) by omega,dT (by omega),pP (by omega),cd (by unfold ln;omega),xj (by omega) (by omega),J5];obtain⟨l1,e1,h1⟩:=a5s m hc F t m 0 (sw l F (F+t)) (by omega) (by omega) (by rw[hp.1];omega) (by rw[hp.1];exact hl) (hp.all hA);have qm:G0 m (t:Int) (F:Int) sn ps st m (sw l F (F+t)) 0=some l1:=e1;have p1:=hp.tr h1;rw[qm,aN,na (x:=(t:Int)-1) (by omega) (by omega)];obtain⟨l2,e2,h3⟩:=ih t l1 (by omega) (by omega) (by rw[p1.1];omega) (by rw[p1.1];omega) (by rw[p1.1];omega) (p1.all hA);exact⟨l2,e2,p1.tr h3⟩
theorem ajc{a b:Nat}{l:LP}(lW:a<b)(hb:b≤l.length)(hl:l.length<16777216)(hm:l.length+3<m)(hA:∀x∈l,P x):∃l',Nf m l (a:Int) (b:Int) sn ps st=some l'∧Pe l l':=by
 obtain⟨n,rfl⟩:∃n,b=a+n:=⟨b-a,by omega⟩;have hq:Int.tdiv (((n-1:Nat)):Int) 2=(((n-1)/2:Nat):Int):=rfl;obtain⟨l1,e1,h1⟩:=aja m hc a n m ((n-1)/2+1) l (by omega) (by omega) hb hl (by omega) hA;obtain⟨l2,e2,h3⟩:=ajb m hc a n m n l1 (by omega) (du _) (by rw[h1.1];exact hb) (by rw[h1.1];exact hl) (by rw[h1.1];omega) (h1.all hA);refine⟨l2,?_,h1.tr h3⟩;have x1:((((n-1)/2+1:Nat):Int)-1)=(((n-1)/2:Nat):Int):=by omega
 have x2:(((n:Nat):Int)-1)=((n-1:Nat):Int):=by omega
 rw[x1]at e1;rw[x2]at e2;rw[Nf,n5 (by omega) (by omega),show a+n-a=n by omega,lE (by omega) (by omega),hq,lt_eq,GF (by omega),e1,aN];exact e2
theorem ajd(rec:LP→Int→Int→Int→Mi→LP→List bI→Option LP)(N:Nat)
   (Sn:∀(l:LP)(a b:Nat)(uh:Int),a≤b→b-a<N→b≤l.length→l.length<16777216→l.length+6<m→(∀x∈l,P x)→∃l',rec l (a:Int) (b:Int) uh sn ps st=some l'∧Pe l l'):
   ∀(kk a b:Nat)(l:LP)(uh:Int)(wb wp:Bool),b-a<kk→b-a≤N→a≤b→b≤l.length→l.length<16777216→l.length+6<m→(∀x∈l,P x)→∃l',D8 m sn ps st rec kk l (a:Int) (b:Int) uh wb wp=some l'∧Pe l l':=by
 intro kk
 induction kk with
 |zero=>intro a b l uh wb wp h;omega
 |succ kk ih=>
  intro a b l uh wb wp hk hN lW hb hl hm hA;rw[D8,n5 lW (by omega)];by_cases h12:b-a≤12
  ·obtain⟨l',e,h1⟩:=aiM m hc a b l hb hl (by omega) hA lW;rw[dT (by omega),e];exact⟨l',rfl,h1⟩
  ·rw[dF (by omega)];cases uh==0 with
   |true=>
    obtain⟨l',e,h1⟩:=ajc m hc (a:=a) (b:=b) (l:=l) (by omega) hb hl (by omega) hA;rw[bB,e];exact⟨l',rfl,h1⟩
   |false=>
    rw[bh];have S1:∃(GI:Int)(l1:LP),cond (!wb) (Option.bind (J9 m l (a:Int) (b:Int) sn ps st) λtM=>some (J (uh-1),tM)) (some (uh,l))=some (GI,l1)∧Pe l l1:=by
     cases wb
     ·obtain⟨l1,e,h1⟩:=aiW m (a:=a) (b:=b) sn ps st l (by omega) hb hl (by omega);exact⟨_,l1,by rw[nF,e,aN],h1⟩
     ·exact⟨uh,l,rfl,mZ l⟩
    obtain⟨GI,l1,e1,p1⟩:=S1;obtain⟨pv,s,e2,v1,v2⟩:=aiP m hc (l:=l1) (p1.all hA) (a:=a) (b:=b) (by omega) (by rw[p1.1];exact hb) (by rw[p1.1];omega);rw[e1,aN];dsimp only;rw[e2,aN];dsimp only;have S2:∃(p:Nat)(s':Int)(l2:LP),cond (s==2) (Option.bind (Jb m l1 (a:Int) (b:Int) sn ps st) λNv=>lt (J (J ((b:Int)-1)-J ((pv:Int)-(a:Int)))) λsQ=>some (sQ,1,Nv)) (some ((pv:Int),s,l1))=some ((p:Int),s',l2)∧Pe l1 l2∧p<b:=by
     cases s==2
     ·exact⟨pv,s,l1,rfl,mZ _,v2⟩
     ·obtain⟨l2,e,h1⟩:=aiO m a b sn ps st l1 (by omega) (by rw[p1.1];exact hb) (by rw[p1.1];omega) (by rw[p1.1];omega);refine⟨(b-1)-(pv-a),1,l2,?_,h1,by omega⟩;rw[bB,e,aN,lE (by omega) (by omega),n5 v1 (by omega),n5 (by omega) (by omega),lt_eq]
    obtain⟨p,s',l2,e3,p2,u2⟩:=S2;have JY:=p1.tr p2;rw[e3,aN];dsimp only;have hA2:=JY.all hA;have S3:∃z,(lt (cond (cond wb wp false) (s'==1) false) λNw=>cond Nw (Option.bind (Je m l2 (a:Int) (b:Int) sn ps st) λD9=>cond D9.1 (some (.inl D9.2)) (some (.inr D9.2))) (some (.inr l2)))=(some z:Option (Sum LP LP))∧Pe l2 (match z with| .inl l3=>l3| .inr l3=>l3):=by
     rw[lt_eq];cases cond (cond wb wp false) (s'==1) false
     ·exact⟨.inr l2,rfl,mZ _⟩
     ·obtain⟨r,l3,e,h1⟩:=aj1 m hc (a:=a) (b:=b) (l:=l2) (by omega) (by rw[JY.1];exact hb) (by rw[JY.1];exact hl) (by rw[JY.1];exact hm) hA2;rw[bB,e,aN];cases r
      ·exact⟨.inr l3,rfl,h1⟩
      ·exact⟨.inl l3,rfl,h1⟩
    obtain⟨z,e4,p3⟩:=S3;rw[e4,aN];cases z with
    |inl l3=>exact⟨l3,rfl,JY.tr p3⟩
    |inr l3=>
     have p3:Pe l2 l3:=p3;have q3:=JY.tr p3;have Zh:=q3.all hA;have L3:=q3.1;show∃l',az (decide (0<(a:Int))=true→0≤J ((a:Int)-1)∧J ((a:Int)-1)<ln l3) _=_∧_;have hx:∃x:Bool,∀{β:Type}(f:Bool→Option β),(az (decide (0<(a:Int))=true→0≤J ((a:Int)-1)∧J ((a:Int)-1)<ln l3)<|az (decide (0<(a:Int))=true→0≤(p:Int)∧(p:Int)<ln l3)<|Option.bind (cond (decide (0<(a:Int))) (mW m (gi l3 (J ((a:Int)-1))) (gi l3 (p:Int)) sn ps st) (some default)) λRl=>lt (cond (decide (0<(a:Int))) (!(decide (Rl<0))) false) f)=f x:=by
      by_cases ha:0<a
      ·have hw:J ((a:Int)-1)=((a-1:Nat):Int):=lE ha (by omega);refine⟨!(decide (cf (gx l3 (a-1)) (gx l3 p)<0)),λf=>?_⟩;rw[hJ (λ_=>by rw[hw];unfold ln;omega),hJ (λ_=>by unfold ln;omega),dT (by omega),hw,yz m hc Zh (by omega) (by omega),aN,dT (by omega),lt_eq]
      ·have hf:decide (0<(a:Int))=false:=eK (by omega);refine⟨false,λf=>?_⟩;rw[hJ (λh=>by rw[hf]at h;cases h),hJ (λh=>by rw[hf]at h;cases h),hf];rfl
     obtain⟨x,hx2⟩:=hx;rw[hx2];cases x with
     |true=>
      obtain⟨q,l4,e5,w1,w2,p4⟩:=aj9 m hc (a:=a) (b:=b) (p:=p) (l:=l3) (by omega) (by omega) (by omega) (by omega) u2 Zh;have q4:=q3.tr p4;rw[bB,e5,aN];dsimp only;obtain⟨l5,e6,p5⟩:=ih q b l4 GI wb wp (by omega) (by omega) w2 (by rw[q4.1];exact hb) (by rw[q4.1];exact hl) (by rw[q4.1];exact hm) (q4.all hA);exact⟨l5,e6,q4.tr p5⟩
     |false=>
      obtain⟨q,r,l4,e5,w1,w2,p4⟩:=aj5 m hc (a:=a) (b:=b) (p:=p) (l:=l3) (by omega) (by omega) (by omega) (by omega) u2 Zh;have q4:=q3.tr p4;have L4:=q4.1;rw[bh,e5,aN];dsimp only;rw[lt_eq];cases decide (J ((q:Int)-(a:Int))<J ((b:Int)-(q:Int)))with
      |true=>
       rw[bB,lt_eq];obtain⟨l5,e6,p5⟩:=Sn l4 a q GI (by omega) (by omega) (by omega) (by omega) (by omega) (q4.all hA);have q5:=q4.tr p5;rw[e6,aN,bQ (by omega)];obtain⟨l6,e7,p6⟩:=ih (q+1) b l5 GI (decide (J (Int.tdiv ((b-a:Nat):Int) 8)≤J ((q:Int)-(a:Int)))) r (by omega) (by omega) (by omega) (by rw[q5.1];exact hb) (by rw[q5.1];exact hl) (by rw[q5.1];exact hm) (q5.all hA);exact⟨l6,e7,q5.tr p6⟩
      |false=>
       rw[bh,lt_eq,bQ (by omega)];obtain⟨l5,e6,p5⟩:=Sn l4 (q+1) b GI (by omega) (by omega) (by omega) (by omega) (by omega) (q4.all hA);have q5:=q4.tr p5;rw[e6,aN];obtain⟨l6,e7,p6⟩:=ih a q l5 GI (decide (J (Int.tdiv ((b-a:Nat):Int) 8)≤J ((b:Int)-(q:Int)))) r (by omega) (by omega) (by omega) (by rw[q5.1];omega) (by rw[q5.1];exact hl) (by rw[q5.1];exact hm) (q5.all hA);exact⟨l6,e7,q5.tr p6⟩
theorem aje:∀(k:Nat)(l:LP)(a b:Nat)(uh:Int),a≤b→b-a<k→b≤l.length→l.length<16777216→l.length+6<m→(∀x∈l,P x)→∃l',G6 m k l (a:Int) (b:Int) uh sn ps st=some l'∧Pe l l':=by
 intro k
 induction k with
 |zero=>intro l a b uh h1 h2;omega
 |succ k ih=>
  intro l a b uh h1 h2 hb hl hm hA;exact ajd m hc (G6 m k) k ih m a b l uh true true (by omega) (by omega) h1 hb hl hm hA
theorem ajf{l:LP}(hl:l.length<16777216)(hm:l.length+6<m)(hA:∀x∈l,P x):∃l',Ny m l sn ps st=some l'∧l'.Perm l:=by
 obtain⟨y,e,_,_⟩:=a5o (n:=l.length) hl;obtain⟨l',e2,h1⟩:=aje m hc m l 0 l.length (y:Int) (by omega) (by omega) (du _) hl hm hA;refine⟨l',?_,h1.2⟩;have e3:Y4 m l 0 ((l.length:Nat):Int) (y:Int) sn ps st=some l':=e2;rw[Ny,show ln l=((l.length:Nat):Int)from rfl,Ab (by omega) (by omega),e,aN,e3];rfl
end
theorem a5t:∀(k n:Nat),(n9 k n).length≤k+1:=by
 intro k
 induction k with
 |zero=>intro n;rw[n9];simp
 |succ k ih=>
  intro n;rw[n9];cases Nat.blt n 10
  ·rw[bh,fg];have:=ih (n/10);simp;omega
  ·rw[bB];simp
theorem a5u{n:Nat}(h:n<10):Nat.blt n 10=true:=by rw[Nat.blt_eq];exact h
theorem a5v{n:Nat}(h:¬n<10):Nat.blt n 10=false:=by
 cases hx:Nat.blt n 10 with
 |false=>rfl
 |true=>rw[Nat.blt_eq]at hx;exact absurd hx h
def So(s:a7):Nat:=s.foldl (λv b=>10*v+(b.toNat-48)) 0
theorem Sp{d:Nat}(h:d<10):(UInt8.ofNat (48+d)).toNat=48+d:=by
 rw[UInt8.toNat_ofNat'];exact Nat.mod_eq_of_lt (by omega)
theorem ajg:∀(k n:Nat),∀b∈n9 k n,48≤b.toNat∧b.toNat≤57:=by
 intro k
 induction k with
 |zero=>intro n b hb;cases hb
 |succ k ih=>
  intro n b hb;rw[n9]at hb;by_cases h:n<10
  ·rw[a5u h,bB,List.mem_singleton]at hb;rw[hb,Sp h];omega
  ·rw[a5v h,bh,List.mem_append,List.mem_singleton]at hb;rcases hb with hb|hb
   ·exact ih _ b hb
   ·rw[hb,Sp (by omega)];omega
theorem a5w:∀(k n:Nat),n<10^k→So (n9 k n)=n:=by
 intro k
 induction k with
 |zero=>intro n h;rw[Nat.pow_zero]at h;rw[n9];have:n=0:=(by omega);rw[this];rfl
 |succ k ih=>
  intro n h;rw[n9];by_cases hn:n<10
  ·rw[a5u hn,bB];show 10*0+((UInt8.ofNat (48+n)).toNat-48)=n;rw[Sp hn];omega
  ·rw[a5v hn,bh];have:=ih (n/10) (by rw[Nat.pow_succ]at h;omega);rw[So,List.foldl_append];show 10*So (n9 k (n/10))+((UInt8.ofNat (48+n%10)).toNat-48)=n;rw[this,Sp (by omega)];omega
def oi(p:List a7):a7:=p.flatMap λs=>n9 20 s.length++(58::s)
theorem NY(s:a7)(p:List a7):oi (s::p)=n9 20 s.length++(58::(s++oi p)):=by simp[oi]
theorem ajh:∀(A B X Y:a7),(∀b∈A,b≠58)→(∀b∈B,b≠58)→A++(58::X)=B++(58::Y)→A=B∧X=Y:=by
 intro A
 induction A with
 |nil=>
  intro B X Y hA hB h;cases B with
  |nil=>exact⟨rfl,(List.cons.inj h).2⟩
  |cons b B=>exact absurd (List.cons.inj h).1.symm (hB b (List.mem_cons_self ..))
 |cons a A ih=>
  intro B X Y hA hB h;cases B with
  |nil=>exact absurd (List.cons.inj h).1 (hA a (List.mem_cons_self ..))
  |cons b B=>
   obtain⟨h1,h2⟩:=List.cons.inj h;obtain⟨h3,h4⟩:=ih B X Y (λx hx=>hA x (List.mem_cons_of_mem _ hx)) (λx hx=>hB x (List.mem_cons_of_mem _ hx)) h2;exact⟨by rw[h1,h3],h4⟩
theorem a5x(n:Nat):∀b∈n9 20 n,b≠58:=λb hb e=>by
 have:=ajg 20 n b hb;rw[e]at this;have:(58:UInt8).toNat=58:=rfl;omega
theorem aji:∀(p q:List a7),(∀s∈p,s.length<10^20)→(∀s∈q,s.length<10^20)→oi p=oi q→p=q:=by
 intro p
 induction p with
 |nil=>
  intro q hp hq h;cases q with
  |nil=>rfl
  |cons t q=>rw[NY]at h;exact absurd (congrArg List.length h) (by simp[oi])
 |cons s p ih=>
  intro q hp hq h;cases q with
  |nil=>rw[NY]at h;exact absurd (congrArg List.length h) (by simp[oi])
  |cons t q=>
   rw[NY,NY]at h;obtain⟨h1,h2⟩:=ajh _ _ _ _ (a5x _) (a5x _) h;have hl:s.length=t.length:=by
    have:=congrArg So h1;rwa [a5w 20 _ (hp s (List.mem_cons_self ..)),a5w 20 _ (hq t (List.mem_cons_self ..))]at this
   obtain⟨h3,h4⟩:=List.append_inj h2 hl;rw[h3,ih q (λx hx=>hp x (List.mem_cons_of_mem _ hx)) (λx hx=>hq x (List.mem_cons_of_mem _ hx)) h4]
def lF(p:List a7):Nat:=(p.map λs=>s.length+30).sum
theorem GJ(s:a7)(p:List a7):lF (s::p)=s.length+30+lF p:=by simp[lF]
theorem Zi(p:List a7):p.length≤lF p:=by
 induction p with
 |nil=>exact fI _
 |cons s p ih=>rw[GJ,fx];omega
theorem a5y{p:List a7}{s:a7}(h:s∈p):s.length≤lF p:=by
 induction p with
 |nil=>cases h
 |cons t p ih=>
  rw[GJ];rcases List.mem_cons.1 h with rfl|h
  ·omega
  ·have:=ih h;omega
theorem ajj(p:List a7)(k:Nat):lF (p.take k)≤lF p:=by
 induction p generalizing k with
 |nil=>simp
 |cons s p ih=>
  cases k with
  |zero=>simp[lF]
  |succ k=>rw[List.take_succ_cons,GJ,GJ];have:=ih k;omega
theorem ajk(m:Nat)(path:List a7)(vY:path.length<1000000000000):∀(kk i:Nat)(acc:a7),path.length-i<kk→i≤path.length→acc.length+lF (path.drop i)<1000000000000→
   IX m path kk acc (i:Int)=some (acc++oi (path.drop i)):=by
 intro kk
 induction kk with
 |zero=>intro i acc h;omega
 |succ kk ih=>
  intro i acc hk hi hs;rw[IX];by_cases h:i<path.length
  ·have hd:=ov h;have hg:gi path (i:Int)=path[i]:=hZ path i h;have e:path.drop i=path[i]::path.drop (i+1):=hd;rw[e,GJ]at hs;have amo:=a5t 20 path[i].length;have hp:=Zi path;have hI:BK (ln path[i])=some (n9 20 path[i].length):=by
    unfold BK;rw[cd (by unfold ln;omega),KF,show decide (ln path[i]<0)=false from eK (by unfold ln;omega),bh];rfl
   have hl2:=Zi (path.drop (i+1));rw[dL h,ej h,hg,hI,aN,cd (by simp only[ln,fx,ia];omega),cd (by simp only[ln,fg,fx,ia];omega),cd (by simp only[ln,fg,fx,ia];omega),
    bQ (by omega),ih (i+1) _ (by omega) (by omega) (by simp only[fg,fx,ia];omega),e,NY]
   simp
  ·have he:i=path.length:=by omega
   subst he;rw[dG (du _),List.drop_length];simp[oi]
theorem Zj(m:Nat)(path:List a7)(hs:lF path<1000000000000)(hm:path.length<m):zy m path=some (oi path):=by
 have:=ajk m path (by have:=Zi path;omega) m 0 [] (by omega) (fI _) (by simpa using hs);rw[zy];have e:IX m path m [] 0=some (oi path):=this;rw[e];rfl
abbrev SZ:Nat:=1000000000
abbrev LN:Nat:=1090000
def en:Nat→LP→Mi
 |_,[]=>[]
 |i,p::r=>(oi p,(i:Int))::en (i+1) r
theorem ajl:∀(a:LP)(i:Nat)(p:List a7),en i (a++[p])=en i a++[(oi p,((i+a.length:Nat):Int))]:=by
 intro a
 induction a with
 |nil=>intro i p;rfl
 |cons q a ih=>intro i p;rw[List.cons_append,en,en,ih,List.cons_append,fx,show i+1+a.length=i+(a.length+1) by omega]
abbrev Ok(p:List a7):Prop:=lF p<SZ∧p.length<LN
theorem Ok.key{p q:List a7}(hp:Ok p)(hq:Ok q)(h:oi p=oi q):p=q:=
 aji p q (λs hs=>by have:=a5y hs;have hp:=hp.1;unfold SZ at hp;have:(1000000000:Nat)<10^20:=(by decide);omega) (λs hs=>by have:=a5y hs;have hq:=hq.1;unfold SZ at hq;have:(1000000000:Nat)<10^20:=(by decide);omega) h
theorem ajm{p q:List a7}(hp:Ok p)(hq:Ok q):(oi p==oi q)=decide (p=q):=by
 by_cases h:p=q
 ·rw[h,beq_self_eq_true,kq rfl]
 ·rw[yO.2 (λe=>h (hp.key hq e)),eK h]
theorem ajn:∀(ps:LP)(i:Nat)(q:List a7),(∀p∈ps,Ok p)→Ok q→s6 (en i ps) (oi q)=decide (q∈ps):=by
 intro ps
 induction ps with
 |nil=>intro i q h hq;rfl
 |cons p r ih=>
  intro i q h hq;rw[en,s6,ih (i+1) q (λx hx=>h x (List.mem_cons_of_mem _ hx)) hq,ajm hq (h p (List.mem_cons_self ..))];by_cases e:q=p<;>simp[e]
structure Tv(sn:Mi)(ps:LP):Prop where
 eq:sn=en 0 ps
 nd:ps.Nodup
 ne:∀p∈ps,p≠[]
 pre:∀p∈ps,∀k,0<k→k≤p.length→p.take k∈ps
 sz:∀p∈ps,Ok p
theorem Ok.take{p:List a7}(h:Ok p)(k:Nat):Ok (p.take k):=⟨Nat.lt_of_le_of_lt (ajj p k) h.1,by rw[List.length_take];have:=h.2;omega⟩
theorem Ok.len{p:List a7}(h:Ok p):p.length<LN:=h.2
theorem Zk(p:List a7)(k:Nat):gf p (0:Int) (k:Int)=p.take k:=by
 rw[gf];simp
theorem Tv.nil:Tv [] []:=⟨rfl,List.nodup_nil,(λ_ h=>by cases h),(λ_ h=>by cases h),(λ_ h=>by cases h)⟩
theorem ajo(m:Nat)(path:List a7)(hp:Ok path)(hm:LN<m):∀(kk i:Nat)(sn:Mi)(ps:LP),path.length-i<kk→i≤path.length→Tv sn ps→ps.length+(path.length-i)<SZ→(∀k,0<k→k≤i→path.take k∈ps)→
   ∃t gU,N5 m path kk (i:Int) ps sn=some (ps++t,gU)∧Tv gU (ps++t)∧(∀c,(∀k,0<k→k≤c→path.take k∈ps)→t.length≤path.length-max i c)∧∀k,0<k→k≤path.length→path.take k∈ps++t:=by
 intro kk
 induction kk with
 |zero=>intro i sn ps h;omega
 |succ kk ih=>
  intro i sn ps hk hi hT hs NZ;rw[N5];have hl:=hp.len;by_cases h:i<path.length
  ·have hq:=hp.take (i+1);have ajp:zy m (path.take (i+1))=some (oi (path.take (i+1))):=Zj m _ (by have:=hq.1;unfold SZ at this;omega) (by have:=hq.len;omega);rw[dL h,bQ (by unfold LN at hl;omega),cd (by unfold ln;omega),Zk,lt_eq,ajp,aN,lt_eq,lt_eq,hT.eq,ajn _ _ _ hT.sz hq];by_cases rW:path.take (i+1)∈ps
   ·rw[kq rW,nT,aN];dsimp only;rw[←hT.eq];obtain⟨t,gU,e,h1,h2,h3⟩:=ih (i+1) sn ps (by omega) (by omega) hT (by omega) (λk g1 g2=>by
     by_cases hk:k=i+1
     ·rw[hk];exact rW
     ·exact NZ k g1 (by omega))
    exact⟨t,gU,e,h1,(λc hc=>by
     have:=h2 (max c (i+1)) (λk g1 g2=>by
      by_cases hk:k≤c
      ·exact hc k g1 hk
      ·by_cases A1:k=i+1
       ·rw[A1];exact rW
       ·exact NZ k g1 (by omega))
     omega),h3⟩
   ·have yG:N4 (path.take (i+1))=some (path.take (i+1)):=by
     rw[N4,cd (by have:=hq.len;unfold LN at this;simp only[ln,ia];omega),lt_eq];rfl
    rw[eK rW,nF,cd rfl,lt_eq,yG,aN,cd (by unfold SZ at hs;simp only[ln,fx,ia];omega),lt_eq,aN];dsimp only;have Eb:Tv (en 0 ps++[(oi (path.take (i+1)),ln ps)]) (ps++[path.take (i+1)]):=by
     refine⟨?_,?_,?_,?_,?_⟩
     ·rw[ajl,Nat.zero_add];rfl
     ·rw[List.nodup_append];exact⟨hT.nd,by simp,λa ha b hb e=>rW (by rw[List.mem_singleton]at hb;rw[←hb,←e];exact ha)⟩
     ·intro p O0;rcases List.mem_append.1 O0 with h'|h'
      ·exact hT.ne p h'
      ·rw[List.mem_singleton]at h';rw[h'];intro e;have:=congrArg List.length e;rw[List.length_take,ia]at this;omega
     ·intro p O0 k g1 g2;rcases List.mem_append.1 O0 with h'|h'
      ·exact List.mem_append.2 (.inl (hT.pre p h' k g1 g2))
      ·rw[List.mem_singleton]at h';subst h';rw[List.length_take]at g2;rw[List.take_take,Nat.min_eq_left (by omega)];by_cases hk:k=i+1
       ·rw[hk];exact List.mem_append.2 (.inr (List.mem_singleton.2 rfl))
       ·exact List.mem_append.2 (.inl (NZ k g1 (by omega)))
     ·intro p O0;rcases List.mem_append.1 O0 with h'|h'
      ·exact hT.sz p h'
      ·rw[List.mem_singleton]at h';rw[h'];exact hq
    obtain⟨t,gU,e,h1,h2,h3⟩:=ih (i+1) _ _ (by omega) (by omega) Eb (by rw[fg,List.length_singleton];omega) (λk g1 g2=>by
     by_cases hk:k=i+1
     ·rw[hk];exact List.mem_append.2 (.inr (List.mem_singleton.2 rfl))
     ·exact List.mem_append.2 (.inl (NZ k g1 (by omega))))
    rw[tA]at e h1 h3;exact⟨[path.take (i+1)]++t,gU,e,h1,(λc hc=>by
     have hci:c≤i:=by
      rcases Nat.lt_or_ge i c with g|g
      ·exact absurd (hc (i+1) (by omega) (by omega)) rW
      ·exact g
     have:=h2 0 (λk g1 g2=>by omega);rw[fg,List.length_singleton];omega),h3⟩
  ·have he:i=path.length:=by omega
   subst he;rw[dG (du _)];exact⟨[],sn,by rw[List.append_nil],by rw[List.append_nil];exact hT,(λc hc=>by simp),by rw[List.append_nil];exact NZ⟩
theorem a5z(m:Nat){path:List a7}(hp:Ok path)(hm:LN<m){sn:Mi}{ps:LP}(st:List bI)(hT:Tv sn ps)(hs:ps.length+path.length<SZ):
   ∃t gU,IY m path sn ps st=some (ps++t,gU)∧Tv gU (ps++t)∧(∀c,(∀k,0<k→k≤c→path.take k∈ps)→t.length≤path.length-c)∧∀k,0<k→k≤path.length→path.take k∈ps++t:=by
 have hl:=hp.len;obtain⟨t,gU,e,h1,h2,h3⟩:=ajo m path hp hm m 0 sn ps (by omega) (fI _) hT (by omega) (λk g1 g2=>by omega);exact⟨t,gU,e,h1,(λc hc=>by have:=h2 c hc;omega),h3⟩
theorem a5A(m:Nat)(a b:List a7)(h:a.length+b.length<SZ)(hm:3<m):FP m ([a,b]:List (List a7))=some (a++b):=by
 obtain⟨k,rfl⟩:∃k,m=k+3:=⟨m-3,by omega⟩;have w:∀n:Nat,n<SZ→J (n:Int)=(n:Int):=λn hn=>by unfold SZ at hn;exact GF (by omega)
 unfold SZ at h;have e1:FO (k+3) [a,b] (k+3) 0 0=some ((a.length+b.length:Nat):Int):=by
  have x1:J ((0:Int)+ln (gi [a,b] 0))=(a.length:Int):=by show J ((0:Int)+(a.length:Int))=_;rw[Int.zero_add,GF (by omega)]
  have x2:J ((a.length:Int)+ln (gi [a,b] 1))=((a.length+b.length:Nat):Int):=by show J ((a.length:Int)+(b.length:Int))=_;rw[pP (by omega)]
  rw[FO,show decide ((0:Int)<ln [a,b])=true from rfl,bB,cd (by show(0:Int)≤0∧(0:Int)<((2:Nat):Int);omega),x1,lt_eq,dF (by omega),
   FO,show J ((0:Int)+1)=1 from by decide,show decide ((1:Int)<ln [a,b])=true from rfl,bB,cd (by show(0:Int)≤1∧(1:Int)<((2:Nat):Int);omega),x2,lt_eq,dF (by omega),
   FO,show J ((1:Int)+1)=2 from by decide,show decide ((2:Int)<ln [a,b])=false from rfl,bh]
 have e2:CY (k+3) [a,b] (k+3) [] 0=some (a++b):=by
  rw[CY,show decide ((0:Int)<ln [a,b])=true from rfl,bB,cd (by show(0:Int)≤0∧(0:Int)<((2:Nat):Int);omega),cd (by show((0:Nat):Int)+(a.length:Int)≤_;omega),lt_eq,
   CY,show J ((0:Int)+1)=1 from by decide,show decide ((1:Int)<ln [a,b])=true from rfl,bB,cd (by show(0:Int)≤1∧(1:Int)<((2:Nat):Int);omega),cd (by show(((([]:List a7)++a).length:Nat):Int)+(b.length:Int)≤_;rw[List.nil_append];omega),lt_eq,
   CY,show J ((1:Int)+1)=2 from by decide,show decide ((2:Int)<ln [a,b])=false from rfl,bh]
  rfl
 rw[FP,e1,aN,QW,cd (by omega),lt_eq,aN];show Option.bind (CY (k+3) [a,b] (k+3) [] 0) _=_;rw[e2,aN]
theorem ajq{a b:List a7}{i:Nat}(h:a.take i=b.take i)(ha:i<a.length)(hb:i<b.length):(gi a (i:Int)==gi b (i:Int))=decide (a.take (i+1)=b.take (i+1)):=by
 have e1:a.take (i+1)=a.take i++[a[i]]:=List.take_succ_eq_append_getElem ha;have e2:b.take (i+1)=b.take i++[b[i]]:=List.take_succ_eq_append_getElem hb;rw[e1,e2,h,hZ a i ha,hZ b i hb];by_cases e:a[i]=b[i]
 ·rw[e];simp
 ·rw[yO.2 e,eK (λx=>e (List.cons.inj (List.append_cancel_left x)).1)]
theorem ajr(m:Nat)(sn:Mi)(hm:LN<m){a b:List a7}(oa:Ok a)(ob:Ok b):∀(k kk i:Nat),i+k=min a.length b.length→k<kk→∃z,FX m a b sn kk (i:Int)=some z:=by
 have la:=oa.len;have lb:=ob.len;unfold LN at la lb;have a5B:(if ln b<ln a then ln b else ln a)=((min a.length b.length:Nat):Int):=by
  unfold ln;by_cases h:b.length<a.length
  ·rw[if_pos (by omega)];omega
  ·rw[if_neg (by omega)];omega
 intro k
 induction k with
 |zero=>
  intro kk i hi hk;obtain⟨kk,rfl⟩:=sK ‹_<kk›;rw[FX,a5B,show decide ((i:Int)<((min a.length b.length:Nat):Int))=false from eK (by omega),lt_eq,bh];exact⟨_,rfl⟩
 |succ k ih=>
  intro kk i hi hk;obtain⟨kk,rfl⟩:=sK ‹_<kk›;have h1:i<a.length:=by omega
  have h2:i<b.length:=by omega
  rw[FX,a5B,show decide ((i:Int)<((min a.length b.length:Nat):Int))=true from kq (by omega),lt_eq,bB,ej h1,ej h2];cases gi a (i:Int)==gi b (i:Int)
  ·have ka:zy m (a.take (i+1))=some (oi (a.take (i+1))):=Zj m _ (by have:=(oa.take (i+1)).1;unfold SZ at this;omega) (by have:=(oa.take (i+1)).len;omega);have kb:zy m (b.take (i+1))=some (oi (b.take (i+1))):=Zj m _ (by have:=(ob.take (i+1)).1;unfold SZ at this;omega) (by have:=(ob.take (i+1)).len;omega);rw[nF,bQ (by omega),cd (by unfold ln;omega),Zk,lt_eq,ka,aN,lt_eq,lt_eq,cd (by unfold ln;omega),Zk,lt_eq,kb,aN,lt_eq,lt_eq];exact⟨_,rfl⟩
  ·rw[nT,bQ (by omega)];exact ih kk (i+1) (by omega) (by omega)
theorem ajs(m:Nat){sn:Mi}{ps:LP}(hT:Tv sn ps)(hm:LN<m)(hps:ps.length<16777216)(Zg:ps.length+6<m)(st:List bI):∃l,G7 m sn ps st=some l∧l.Perm ps∧True:=by
 have yG:Nb ps=some ps:=by
  rw[Nb,cd (by simp only[ln,ia];omega),lt_eq];rfl
 have hc:Cm m sn ps st Ok (λa b=>(mW m a b sn ps st).getD 0):=λa b ha hb=>by
  have la:=ha.len;obtain⟨z,e⟩:=ajr m sn hm ha hb (min a.length b.length) m 0 (by omega) (by omega);have e':FX m a b sn m 0=some z:=e;have⟨x,h⟩:∃x,mW m a b sn ps st=some x:=by
   rw[mW,e',aN];cases z<;>exact⟨_,rfl⟩
  show _=some (Option.getD (mW m a b sn ps st) 0);rw[h];rfl
 obtain⟨l,e,h1⟩:=ajf m hc (l:=ps) hps Zg hT.sz;exact⟨l,by rw[G7,yG,aN,e];rfl,h1,trivial⟩
theorem Zl(x:bp):zR x=mu x.dE+rI x.cW+zC x.aS+kf x.bK+dZ x.br+6:=by obtain⟨a,b,c,d,e,f⟩:=x;simp only[zR,bp.dE,bp.cW,bp.aS,bp.bK,bp.br];omega
theorem ajt{l:List bp}{i:Nat}(h:i<l.length):dZ (l.drop i)=zR l[i]+dZ (l.drop (i+1)):=by rw[ov h,dZ]
theorem aju{l:List (List a7)}{i:Nat}(h:i<l.length):kf (l.drop i)=rJ l[i]+kf (l.drop (i+1)):=by rw[ov h,kf]
theorem Zm:∀l:List (List a7),l.length≤kf l
 |[]=>fI _
 |v::r=>by have:=Zm r;rw[kf,fx];unfold rJ;omega
theorem Sq:∀l:List bp,l.length≤dZ l
 |[]=>fI _
 |v::r=>by have:=Sq r;have:=Zl v;rw[dZ,fx];omega
theorem a5C(p:List a7):p.length+1≤rJ p:=by
 unfold rJ
 induction p with
 |nil=>simp
 |cons s p ih=>rw[List.map_cons,List.sum_cons,fx];omega
theorem a5D(p:List a7):lF p≤31*rJ p:=by
 unfold rJ
 induction p with
 |nil=>simp[lF]
 |cons s p ih=>rw[GJ,List.map_cons,List.sum_cons];omega
theorem Zn(a b:List a7):lF (a++b)=lF a+lF b:=by simp[lF]
abbrev Pf(pf:List a7)(ps:LP):Prop:=∀k,0<k→k≤pf.length→pf.take k∈ps
theorem Pf.app{pf:List a7}{ps:LP}(h:Pf pf ps)(t:LP):Pf pf (ps++t):=λk h1 h2=>List.mem_append.2 (.inl (h k h1 h2))
structure oV(S:Int→Prop)(n:Nat)(ps:LP)(st:List bI)(b:Nat)(oW:LP)(po:List bI)(gU:Mi)(b':Nat):Prop where
 p:∃t,oW=ps++t∧t.length≤n
 s:∃u,po=st++u∧u.length≤n
 b1:b≤b'
 b2:b'≤b+n
 tv:Tv gU oW
 y:∀u,po=st++u→∀x∈u,S x.source∧x.rule.af=1∧(x.fy=[]∨x.fy∈oW)
theorem oV.tr{S:Int→Prop}{n n':Nat}{ps ol vH:LP}{st nG qi:List bI}{pp tk:Mi}{b b1 b2:Nat}(h:oV S n ps st b ol nG pp b1)(h':oV S n' ol nG b1 vH qi tk b2):oV S (n+n') ps st b vH qi tk b2:=by
 obtain⟨t,e1,l1⟩:=h.p;obtain⟨u,e2,l2⟩:=h.s;obtain⟨t',e3,l3⟩:=h'.p;obtain⟨u',e4,l4⟩:=h'.s;refine⟨⟨t++t',by rw[e3,e1,tA],by rw[fg];omega⟩,⟨u++u',by rw[e4,e2,tA],by rw[fg];omega⟩,?_,?_,h'.tv,λv ev x hx=>?_⟩
 ·have:=h.b1;have:=h'.b1;omega
 ·have:=h.b2;have:=h'.b2;omega
 ·rw[e4,e2,tA]at ev;rw[←List.append_cancel_left ev]at hx;rcases List.mem_append.1 hx with g|g
  ·obtain⟨g1,g2,g3⟩:=h.y u e2 x g;exact⟨g1,g2,g3.imp_right λg=>by rw[e3];exact List.mem_append.2 (.inl g)⟩
  ·exact h'.y u' e4 x g
theorem oV.up{S S':Int→Prop}{n n':Nat}{ps ol:LP}{st nG:List bI}{pp:Mi}{b b1:Nat}(h:oV S n ps st b ol nG pp b1)(hn:n≤n')(hS:∀j,S j→S' j:=by exact λ_ h=>h):oV S' n' ps st b ol nG pp b1:=by
 obtain⟨t,e1,l1⟩:=h.p;obtain⟨u,e2,l2⟩:=h.s;exact⟨⟨t,e1,by omega⟩,⟨u,e2,by omega⟩,h.b1,by have:=h.b2;omega,h.tv,λu e x hx=>⟨hS _ (h.y u e x hx).1,(h.y u e x hx).2⟩⟩
theorem oV.id{S:Int→Prop}{ps:LP}{st:List bI}{sn:Mi}{b:Nat}(h:Tv sn ps)(n:Nat):oV S n ps st b ps st sn b:=⟨⟨[],by rw[List.append_nil],by simp⟩,⟨[],by rw[List.append_nil],by simp⟩,du _,by omega,h,λu e x hx=>by rw[List.self_eq_append_right.1 e]at hx;cases hx⟩
theorem ajv(m:Nat)(hm:LN<m)(rules:List bp)(pf:List a7)(i:Nat)(st:List bI)(vY:pf.length+kf (gi rules (i:Int)).bK<LN)(O1:lF pf+31*kf (gi rules (i:Int)).bK<SZ):∀(kk j:Nat)(sn:Mi)(ps:LP),(gi rules (i:Int)).bK.length-j<kk→j≤(gi rules (i:Int)).bK.length→Tv sn ps→Pf pf ps→ps.length+kf ((gi rules (i:Int)).bK.drop j)<16777216→
   ∃t gU,FQ m rules pf (i:Int) st kk (j:Int) ps sn=some (gU,ps++t)∧Tv gU (ps++t)∧t.length≤kf ((gi rules (i:Int)).bK.drop j):=by
 generalize hN:(gi rules (i:Int)).bK=N at vY O1⊢;have hlen:=Zm N;intro kk
 induction kk with
 |zero=>intro j sn ps h;omega
 |succ kk ih=>
  intro j sn ps hk hj hT hP hs;rw[FQ,hN,lt_eq];by_cases h:j<N.length
  ·have hz:rJ N[j]≤kf N:=by
    have:∀l:List (List a7),∀x∈l,rJ x≤kf l:=by
     intro l
     induction l with
     |nil=>intro x hx;cases hx
     |cons y l ih=>
      intro x hx;rw[kf];rcases List.mem_cons.1 hx with rfl|hx
      ·omega
      ·have:=ih x hx;omega
    exact this N _ (List.getElem_mem h)
   have hl:=a5C N[j];have hps:=a5D N[j];have hd:=aju h;have ok:Ok (pf++N[j]):=⟨by rw[Zn];omega,by rw[fg];omega⟩;unfold LN at vY hm;rw[dL h,ej h,hZ N j h,a5A m pf N[j] (by unfold SZ;omega) (by omega),aN];obtain⟨t,gU,e,h1,h2,h3⟩:=a5z m ok (by unfold LN;omega) st hT (by rw[fg];unfold SZ;omega);have ht:=h2 pf.length (λk g1 g2=>by rw[List.take_append_of_le_length g2];exact hP k g1 g2);rw[fg]at ht;rw[e,aN,bQ (by omega)];dsimp only;obtain⟨t',tk,e2,h4,h5⟩:=ih (j+1) gU (ps++t) (by omega) (by omega) h1 (hP.app t) (by rw[fg];omega);exact⟨t++t',tk,by rw[e2,tA],by rw[←tA];exact h4,by rw[fg];omega⟩
  ·rw[dG (by omega)];exact⟨[],sn,by rw[List.append_nil],by rw[List.append_nil];exact hT,by simp⟩
theorem ajw(n:Nat)(h:n<1000000000):∃y:a7,BK (n:Int)=some y∧y.length≤21:=by
 refine⟨n9 20 n,?_,a5t 20 n⟩;unfold BK;rw[cd (by omega),KF,dF (by omega)];rfl
section
variable (m:Nat) (hm:LN<m) (wd:Int) (hh:∀r:bp,zR r≤1048576→∃b,wT m r (js.mk wd)=some b)
include hm hh
theorem ajx(rules:List bp)(src:Int)(pf:List a7)(rec:List bp→Int→List a7→Int→Mi→LP→List bI→Int→Option (LP×List bI×Mi×Int))(hz:dZ rules≤1048576)(vY:pf.length+dZ rules<LN)(O1:lF pf+31*dZ rules<SZ)
   (Sn:∀(r:bp),r∈rules→∀(ui:List a7)(sn:Mi)(ps:LP)(st:List bI)(b:Nat),Tv sn ps→Pf ui ps→ui.length+dZ r.br<LN→lF ui+31*dZ r.br<SZ→ps.length+dZ r.br<16777216→st.length+dZ r.br<16777216→b+dZ r.br<16777216→
     ∃oW po gU b',rec r.br src ui wd sn ps st (b:Int)=some (oW,po,gU,((b':Nat):Int))∧oV (· =src) (dZ r.br) ps st b oW po gU b'):
   ∀(kk i:Nat)(sn:Mi)(ps:LP)(st:List bI)(b:Nat),rules.length-i<kk→i≤rules.length→Tv sn ps→Pf pf ps→ps.length+dZ (rules.drop i)<16777216→st.length+dZ (rules.drop i)<16777216→b+dZ (rules.drop i)<16777216→
     ∃oW po gU b',CZ m rules src pf wd rec kk (i:Int) ps st (b:Int) sn=some (oW,po,gU,((b':Nat):Int))∧oV (· =src) (dZ (rules.drop i)) ps st b oW po gU b':=by
 have hlen:=Sq rules;unfold LN at vY hm;unfold SZ at O1;intro kk
 induction kk with
 |zero=>intro i sn ps st b h;omega
 |succ kk ih=>
  intro i sn ps st b hk hi hT hP h1 h2 h3;rw[CZ];by_cases h:i<rules.length
  ·have hd:=ajt h;have hr:gi rules (i:Int)=rules[i]:=hZ rules i h;have rW:rules[i]∈rules:=List.getElem_mem h;have yA:zR rules[i]≤dZ rules:=by
    have:∀l:List bp,∀x∈l,zR x≤dZ l:=by
     intro l
     induction l with
     |nil=>intro x hx;cases hx
     |cons y l ih=>
      intro x hx;rw[dZ];rcases List.mem_cons.1 hx with rfl|hx
      ·omega
      ·have:=ih x hx;omega
    exact this rules _ rW
   have hza:=Zl rules[i];obtain⟨iI,hy⟩:=hh rules[i] (by omega);rw[dL h,ej h,hr,hy,aN]
   -- one rule: the new state
   suffices S:∃oW po gU b' x y,(cond (!iI) (some (st,ps,(b:Int),st,sn,ps)) (Option.bind (
      cond (rules[i].af==1) (
      az (ln st+ln ([bI.mk src pf rules[i]]:List bI)≤137438953472)<|
      lt (st++([bI.mk src pf rules[i]]:List bI)) λD0=>
      Option.bind (some (D0,ps,(b:Int),D0,sn,ps)) λQX=>some (.inl QX)) (
      cond (rules[i].af==5) (
      Option.bind (FQ m rules pf (i:Int) st m 0 ps sn) λ(yk:Mi×LP)=>
      Option.bind (some (st,yk.2,(b:Int),st,yk.1,yk.2)) λQY=>some (.inl QY)) (
      cond (rules[i].af==4) (
      Option.bind (BK (b:Int)) λAX=>
      az (ln [0]+ln AX≤9223372036854775807)<|
      Option.bind (
      cond (decide (0<ln rules[i].bK)) (
      az (0≤(0:Int)∧(0:Int)<ln rules[i].bK)<|
      some (gi rules[i].bK (0:Int),(b:Int))) (
      some (([[0]++AX]:List a7),J ((b:Int)+1)))) λ(lB:(List a7)×Int)=>
      Option.bind (FP m ([pf,lB.1]:List (List a7))) λD1=>
      Option.bind (IY m D1 sn ps st) λJ1=>
      some (.inr (D1,J1.1,lB.2,J1.2))) (
      some (.inr (pf,ps,(b:Int),sn)))))) λ(z26:Sum ((List bI)×LP×Int×(List bI)×Mi×LP) ((List a7)×LP×Int×Mi))=>de z26 λmV=>
      Option.bind (rec rules[i].br src mV.1 wd mV.2.2.2 mV.2.1 st mV.2.2.1) λsX=>
      some (sX.2.1,sX.1,sX.2.2.2,st,sX.2.2.1,ps)))=some (po,oW,((b':Nat):Int),x,gU,y)∧oV (· =src) (zR rules[i]) ps st b oW po gU b' by
    obtain⟨ol,nG,pp,b1,x,y,e,g⟩:=S;obtain⟨t,et,GK⟩:=g.p;obtain⟨u,eu,lu⟩:=g.s;have Ke:=g.b2;obtain⟨vH,qi,tk,b2,e2,g2⟩:=ih (i+1) pp ol nG b1 (by omega) (by omega) g.tv (by rw[et];exact hP.app t) (by rw[et,fg];omega) (by rw[eu,fg];omega) (by omega);refine⟨vH,qi,tk,b2,?_,by rw[hd];exact g.tr g2⟩;have e':=e;rw[e',aN,bQ (by omega)];exact e2
   cases iI with
   |false=>exact⟨ps,st,sn,b,st,ps,rfl,oV.id hT _⟩
   |true=>
    rw[nT];cases k1:rules[i].af==1 with
    |true=>
     rw[bB,cd (by simp only[ln,fx,ia];omega),lt_eq,aN,aN];exact⟨ps,st++[bI.mk src pf rules[i]],sn,b,_,_,rfl,⟨⟨[],by rw[List.append_nil],by simp⟩,⟨_,rfl,by simp;omega⟩,du _,by omega,hT,λu eu x hx=>by
      rw[←List.append_cancel_left eu]at hx;rw[List.mem_singleton.1 hx];refine⟨rfl,eq_of_beq k1,?_⟩;by_cases e:pf.length=0
      ·exact .inl (List.length_eq_zero_iff.1 e)
      ·have:=hP pf.length (by omega) (du _);rw[List.take_length]at this;exact .inr this⟩⟩
    |false=>
     rw[bh];cases k5:rules[i].af==5 with
     |true=>
      obtain⟨t,gU,e,g1,g2⟩:=ajv m (by unfold LN;omega) rules pf i st (by rw[hr];unfold LN;omega) (by rw[hr];unfold SZ;omega) m 0 sn ps (by rw[hr];have:=Zm rules[i].bK;omega) (fI _) hT hP (by rw[hr,pa];omega);rw[hr,pa]at g2;have e':FQ m rules pf (i:Int) st m 0 ps sn=some (gU,ps++t):=e;rw[bB,e',aN,aN,aN];exact⟨ps++t,st,gU,b,_,_,rfl,⟨⟨t,rfl,by omega⟩,⟨[],by rw[List.append_nil],by simp⟩,du _,by omega,g1,λu e x hx=>by rw[List.self_eq_append_right.1 e]at hx;cases hx⟩⟩
     |false=>
      rw[bh]
      -- what lies in it
      have inner:∀(ui:List a7)(pp:Mi)(ol:LP)(b1:Nat)(n:Nat),n+dZ rules[i].br≤zR rules[i]→oV (· =src) n ps st b ol st pp b1→Pf ui ol→ui.length≤pf.length+n→lF ui≤lF pf+31*n→
        ∃oW po gU b' x y,(Option.bind (some (.inr (ui,ol,(b1:Int),pp)):Option (Sum ((List bI)×LP×Int×(List bI)×Mi×LP) ((List a7)×LP×Int×Mi))) λz26=>de z26 λmV=>
         Option.bind (rec rules[i].br src mV.1 wd mV.2.2.2 mV.2.1 st mV.2.2.1) λsX=>
         some (sX.2.1,sX.1,sX.2.2.2,st,sX.2.2.1,ps))=some (po,oW,((b':Nat):Int),x,gU,y)∧oV (· =src) (zR rules[i]) ps st b oW po gU b':=by
       intro ui pp ol b1 n hn g hP1 hl1 rT;obtain⟨t,et,GK⟩:=g.p;have Ke:=g.b2;obtain⟨vH,qi,tk,b2,e2,g2⟩:=Sn rules[i] rW ui pp ol st b1 g.tv hP1 (by unfold LN;omega) (by unfold SZ;omega) (by rw[et,fg];omega) (by omega) (by omega);refine⟨vH,qi,tk,b2,st,ps,?_,(g.tr g2).up hn⟩;rw[aN];show Option.bind (rec rules[i].br src ui wd pp ol st (b1:Int)) _=_;rw[e2,aN]
      cases k4:rules[i].af==4 with
      |false=>
       rw[bh];exact inner pf sn ps b 0 (by omega) (oV.id hT 0) hP (by omega) (by omega)
      |true=>
       obtain⟨y,ey,ly⟩:=ajw b (by omega);rw[bB,ey,aN,cd (by simp only[ln,fx,ia];omega)];have nm:∃(nm:List a7)(b1:Nat),cond (decide (0<ln rules[i].bK)) (az (0≤(0:Int)∧(0:Int)<ln rules[i].bK)<|some (gi rules[i].bK (0:Int),(b:Int))) (some (([[0]++y]:List a7),J ((b:Int)+1)))=some (nm,(b1:Int))∧b≤b1∧b1≤b+1∧nm.length≤kf rules[i].bK+1∧lF nm≤31*(kf rules[i].bK+2):=by
        cases hN:rules[i].bK with
        |nil=>
         refine⟨[[0]++y],b+1,?_,by omega,by omega,by simp,?_⟩
         ·rw[show decide ((0:Int)<ln ([]:List (List a7)))=false from rfl,bh,bQ (by omega)]
         ·rw[GJ];simp[lF];omega
        |cons x xs=>
         refine⟨x,b,?_,du _,by omega,?_,?_⟩
         ·rw[show decide ((0:Int)<ln (x::xs))=true from kq (by simp only[ln,fx];omega),bB,cd (by simp only[ln,fx];omega)];rfl
         ·have:=a5C x;rw[kf];omega
         ·have:=a5D x;rw[kf];omega
       obtain⟨nm,b1,en,w1,w2,w3,w4⟩:=nm;have ok:Ok (pf++nm):=⟨by rw[Zn];unfold SZ;omega,by rw[fg];unfold LN;omega⟩;rw[en,aN];dsimp only;rw[a5A m pf nm (by unfold SZ;omega) (by omega),aN];obtain⟨t,gU,e,q1,q2,q3⟩:=a5z m ok (by unfold LN;omega) st hT (by rw[fg];unfold SZ;omega);have ht:=q2 pf.length (λk g1 g2=>by rw[List.take_append_of_le_length g2];exact hP k g1 g2);rw[fg]at ht;rw[e,aN];exact inner (pf++nm) gU (ps++t) b1 (kf rules[i].bK+2) (by omega) ⟨⟨t,rfl,by omega⟩,⟨[],by rw[List.append_nil],by simp⟩,w1,by omega,q1,λu e x hx=>by rw[List.self_eq_append_right.1 e]at hx;cases hx⟩ q3 (by rw[fg];omega) (by rw[Zn];omega)
  ·rw[dG (by omega)];exact⟨ps,st,sn,b,rfl,oV.id hT _⟩
theorem a5E:∀(k:Nat)(rules:List bp)(src:Int)(pf:List a7)(sn:Mi)(ps:LP)(st:List bI)(b:Nat),dZ rules<k→dZ rules≤1048576→Tv sn ps→Pf pf ps→pf.length+dZ rules<LN→lF pf+31*dZ rules<SZ→ps.length+dZ rules<16777216→st.length+dZ rules<16777216→b+dZ rules<16777216→
   ∃oW po gU b',zz m k rules src pf wd sn ps st (b:Int)=some (oW,po,gU,((b':Nat):Int))∧oV (· =src) (dZ rules) ps st b oW po gU b':=by
 intro k
 induction k with
 |zero=>intro rules src pf sn ps st b h;omega
 |succ k ih=>
  intro rules src pf sn ps st b hk hz hT hP vY O1 h1 h2 h3;have hlen:=Sq rules;have:=ajx m hm wd hh rules src pf (zz m k) hz vY O1 (λr hr ui sn ps st b g1 g2 g3 g4 g5 g6 g7=>by
    have yA:zR r≤dZ rules:=by
     have:∀l:List bp,∀x∈l,zR x≤dZ l:=by
      intro l
      induction l with
      |nil=>intro x hx;cases hx
      |cons y l ih=>
       intro x hx;rw[dZ];rcases List.mem_cons.1 hx with rfl|hx
       ·omega
       ·have:=ih x hx;omega
     exact this rules _ hr
    have hza:=Zl r;exact ih r.br src ui sn ps st b (by omega) (by omega) g1 g2 g3 g4 g5 g6 g7) m 0 sn ps st b (by unfold LN at hm vY;omega) (fI _) hT hP (by rw[pa];exact h1) (by rw[pa];exact h2) (by rw[pa];exact h3)
  rw[pa]at this;exact this
end
theorem a5F{l:List fJ}{i:Nat}(h:i<l.length):iP (l.drop i)=zO l[i]+iP (l.drop (i+1)):=by rw[ov h,iP]
theorem O2:∀l:List fJ,l.length≤iP l
 |[]=>fI _
 |v::r=>by have:=O2 r;rw[iP,fx];unfold zO;omega
section
variable (m:Nat) (hm:LN<m) (e:js) (hh:∀r:bp,zR r≤1048576→∃b,wT m r (js.mk e.cY)=some b)
include hm hh
theorem ajy(l:List fJ)(og:Int)(hz:iP l≤1048576):∀(kk i:Nat)(sn:Mi)(ps:LP)(st:List bI)(b:Nat),l.length-i<kk→i≤l.length→Tv sn ps→ps.length+iP (l.drop i)<16777216→st.length+iP (l.drop i)<16777216→b+iP (l.drop i)<16777216→
   ∃oW po gU b',B0 m l e og kk (i:Int) (b:Int) ps st sn=some (((b':Nat):Int),oW,po,gU)∧oV (λj=>∃(i:Nat)(h:i<l.length),j=(i:Int)∧l[i].gN=og) (iP (l.drop i)) ps st b oW po gU b':=by
 have hlen:=O2 l;intro kk
 induction kk with
 |zero=>intro i sn ps st b h;omega
 |succ kk ih=>
  intro i sn ps st b hk hi hT h1 h2 h3;rw[B0];by_cases h:i<l.length
  ·have hd:=a5F h;have uq:zO l[i]+iP (l.drop (i+1))≤1048576:=by
    have:∀(l:List fJ)(i:Nat),iP (l.drop i)≤iP l:=by
     intro l
     induction l with
     |nil=>intro i;simp
     |cons x l ih=>intro i;cases i with
       |zero=>exact du _
       |succ i=>rw[List.drop_succ_cons,iP];have:=ih i;omega
    have:=this l i;omega
   have hO:dZ l[i].ed.br+4=zO l[i]:=by unfold zO;omega
   rw[dL h,ej h,hZ l i h];cases JZ:l[i].gN==og with
   |true=>
    obtain⟨ol,nG,pp,b1,e1,g0⟩:=a5E m hm e.cY hh m l[i].ed.br (i:Int) [] sn ps st b (by unfold LN at hm;omega) (by omega) hT (λk g1 g2=>by simp at g2;omega) (by unfold LN;simp;omega) (by unfold SZ;simp[lF];omega) (by omega) (by omega) (by omega);have g:oV (λj=>∃(i:Nat)(h:i<l.length),j=(i:Int)∧l[i].gN=og) _ ps st b ol nG pp b1:=g0.up (du _) (λj e=>⟨i,h,e,eq_of_beq JZ⟩);obtain⟨t,et,GK⟩:=g.p;obtain⟨u,eu,lu⟩:=g.s;have Ke:=g.b2;rw[bB,R2,e1,aN,aN,bQ (by omega)];obtain⟨vH,qi,tk,b2,e2,g2⟩:=ih (i+1) pp ol nG b1 (by omega) (by omega) g.tv (by rw[et,fg];omega) (by rw[eu,fg];omega) (by omega);exact⟨vH,qi,tk,b2,e2,by rw[hd];exact(g.tr g2).up (by omega)⟩
   |false=>
    rw[bh,aN,bQ (by omega)];obtain⟨vH,qi,tk,b2,e2,g2⟩:=ih (i+1) sn ps st b (by omega) (by omega) hT (by omega) (by omega) (by omega);exact⟨vH,qi,tk,b2,e2,by rw[hd];exact g2.up (by omega)⟩
  ·rw[dG (by omega)];exact⟨ps,st,sn,b,rfl,oV.id hT _⟩
end
def Tt{α:Type}(x:Option α):Prop:=∃r,x=some r
theorem be{α:Type}(a:α):Tt (some a):=⟨a,rfl⟩
theorem cw{α:Type}{b:Bool}{x y:Option α}(h1:b=true→Tt x)(h2:b=false→Tt y):Tt (cond b x y):=by
 cases b
 ·exact h2 rfl
 ·exact h1 rfl
theorem bt{α β:Type}{x:Option α}{f:α→Option β}(h1:Tt x)(h2:∀a,x=some a→Tt (f a)):Tt (Option.bind x f):=by
 obtain⟨a,e⟩:=h1;rw[e];exact h2 a e
theorem mw{α:Type}{p:Prop}[Decidable p]{x:Option α}(h1:p)(h2:Tt x):Tt (az p x):=by rw[cd h1];exact h2
theorem cx{α β:Type}{e:α}{f:α→Option β}(h:Tt (f e)):Tt (lt e f):=h
theorem jR{α β:Type}{z:Sum α β}{f:β→Option α}(h:∀s,z=.inr s→Tt (f s)):Tt (de z f):=by
 cases z with
 |inl a=>exact⟨a,rfl⟩
 |inr s=>exact h s rfl
theorem om{α σ ρ:Type}[Inhabited α](F:Nat→σ→Int→Option ρ)(l:List α)(I:Nat→σ→Prop)
  (hF:∀(kk i:Nat)(a:σ),i<l.length→gi l (i:Int)∈l→I i a→(∀b,I (i+1) b→Tt (F kk b ((i+1:Nat):Int)))→Tt (F (kk+1) a (i:Int)))(hE:∀kk (i:Nat)(a:σ),l.length≤i→Tt (F (kk+1) a (i:Int))):
  ∀(kk i:Nat)(a:σ),l.length-i<kk→I i a→Tt (F kk a (i:Int)):=by
 intro kk
 induction kk with
 |zero=>intro i a h;omega
 |succ kk ih=>
  intro i a h hI;by_cases h1:i<l.length
  ·exact hF kk i a h1 (rM h1) hI (λb hb=>ih (i+1) b (by omega) hb)
  ·exact hE kk i a (by omega)
theorem t0{α ρ:Type}[Inhabited α](F:Nat→Int→Option ρ)(l:List α)
  (hF:∀(kk i:Nat),i<l.length→gi l (i:Int)∈l→Tt (F kk ((i+1:Nat):Int))→Tt (F (kk+1) (i:Int)))(hE:∀kk (i:Nat),l.length≤i→Tt (F (kk+1) (i:Int))){m:Nat}(hm:l.length<m):Tt (F m 0):=
 om (λkk (_:Unit) i=>F kk i) l (λ_ _=>True) (λkk i a h1 h2 _ h3=>hF kk i h1 h2 (h3 () trivial)) (λkk i a h=>hE kk i h) m 0 () (by omega) trivial
theorem jE{α β:Type}{l:List α}{i:Nat}{x y:Option β}(h:i<l.length)(hx:Tt x):Tt (cond (decide ((i:Int)<ln l)) x y):=by rw[qw h];exact hx
theorem jF{α β:Type}{l:List α}{i:Nat}{x:Option β}{y:β}(h:l.length≤i):Tt (cond (decide ((i:Int)<ln l)) x (some y)):=by rw[mB h];exact⟨_,rfl⟩
theorem iA{α β:Type}{l:List α}{i:Nat}{x:Option β}(h:i<l.length)(hx:Tt x):Tt (az (0≤(i:Int)∧(i:Int)<ln l) x):=by rw[ej h];exact hx
def clt(k:Int):cC:=cC.mk k [] 0 [] false
mutual
def O3:aq→List cC
 | .mk t l=>cond (nB t.af==0) [t] (t::(oq l++[clt (nB t.af)]))
def oq:List aq→List cC
 |[]=>[]
 |x::r=>O3 x++oq r
end
theorem Zo(x:aq):O3 x=cond (nB x.aT.af==0) [x.aT] (x.aT::(oq x.aa++[clt (nB x.aT.af)])):=by obtain⟨t,l⟩:=x;rw[O3];rfl
theorem Zp(n:Nat):∀v:List aq,cG v≤n→(oq v).length=kg v:=by
 induction n using Nat.strongRecOn with
 |_ n ih=>
  intro v
  induction v with
  |nil=>intro _;rw[oq,kg];rfl
  |cons x r Gx=>
   intro h;rw[cG]at h;have hk:=qg x;rw[oq,kg,fg,Gx (by omega),Zo,NU];have:=ih (cG x.aa) (by omega) x.aa (du _);cases(nB x.aT.af==0)
   ·simp only[bh,fx,fg,ia,this];omega
   ·rfl
theorem ajz{l:List aq}{i:Nat}(h:i<l.length):oq (l.drop i)=O3 (gi l (i:Int))++oq (l.drop (i+1)):=by
 rw[ov h,oq,←hZ l i h]
theorem ajA(x:aq):(O3 x).length=NT x:=by
 have:=Zp (cG [x]) [x] (du _);rw[oq,kg,oq,kg]at this;simpa using this
theorem ajB(v:List aq)(rec:List cC→List aq→Option (List cC))(hl:v.length≤1048576)(hr:∀x∈v,∀l:List cC,l.length+kg x.aa≤2500000→rec l x.aa=some (l++oq x.aa)):
  ∀(kk i:Nat)(a:List cC),v.length-i<kk→i≤v.length→a.length+kg (v.drop i)≤2500000→HV FU v rec kk a (i:Int)=some (a++oq (v.drop i)):=by
 intro kk
 induction kk with
 |zero=>intro i a h;omega
 |succ kk ih=>
  intro i a h hi ha;rw[HV];by_cases h1:i<v.length
  ·have hm:=rM h1;have yx:=YU h1;have hlen:=ajA (gi v (i:Int));rw[NU]at yx hlen;have hq:(a++[(gi v (i:Int)).aT]).length=a.length+1:=by simp
   rw[dL h1,ej h1,cd (by unfold ln;simp only[fx,ia];omega),lt_eq,lt_eq,a57];rw[ajz h1,Zo]at*;cases hc:(nB (gi v (i:Int)).aT.af==0)
   ·have hz:(nB (gi v (i:Int)).aT.af !=0)=true:=by rw[bne,hc];rfl
    rw[hc,bh]at yx hlen;have hlk:(oq (gi v (i:Int)).aa).length=kg (gi v (i:Int)).aa:=Zp _ _ (du _);rw[hz,bB,hr _ hm _ (by omega),aN,cd (by unfold ln;simp only[fx,ia,fg];omega),lt_eq,aN,bQ (by omega),ih (i+1) _ (by omega) (by omega) (by simp only[fg,fx,ia];omega),bh];congr 1;simp only[tA,List.cons_append,List.nil_append];rfl
   ·have hz:(nB (gi v (i:Int)).aT.af !=0)=false:=by rw[bne,hc];rfl
    rw[hc,bB]at yx;rw[hz,bh,aN,bQ (by omega),ih (i+1) (a++[(gi v (i:Int)).aT]) (by omega) (by omega) (by rw[hq];omega),bB,tA]
  ·rw[dG (by omega),yP (by omega),oq,List.append_nil]
theorem a5G(v:List aq):kg v≤cG v:=(YV (cG v) v (du _)).1
theorem ajC:∀(k:Nat)(v:List aq)(l:List cC),cG v<k→cG v≤1048576→l.length+kg v≤2500000→Fc FU k l v=some (l++oq v):=by
 intro k
 induction k with
 |zero=>intro v l h;omega
 |succ k ih=>
  intro v l h hb hl;have hn:=rL v;rw[Fc,show HV FU v (Fc FU k) FU l 0=some (l++oq (v.drop 0))from ajB v _ (by omega) (λx hx l hl=>ih x.aa l (by have:=qg x;have:=rK hx;omega) (by have:=qg x;have:=rK hx;omega) hl) FU 0 l (by unfold FU;omega) (fI _) (by rw[pa];exact hl),pa];rfl
theorem ajD(v:List aq)(hb:cG v≤1048576):Q6 FU [] v=some (oq v):=by
 have h:=a5G v;unfold Q6;rw[ajC FU v [] (by unfold FU;omega) hb (by simp only[ia];omega)];rfl
def tz(t:cC):Nat:=t.di.length+t.Unit.length
theorem ajE(n:Nat):∀v:List aq,cG v≤n→∀t∈oq v,tz t≤cG v:=by
 induction n using Nat.strongRecOn with
 |_ n ih=>
  intro v
  induction v with
  |nil=>intro _ t ht;rw[oq]at ht;cases ht
  |cons x r Gx=>
   intro h t ht;rw[cG]at h⊢;have hk:=qg x;have hx:=a5g x;rw[oq]at ht;rcases List.mem_append.1 ht with ht|ht
   ·rw[Zo]at ht;cases hc:(nB x.aT.af==0)
    ·rw[hc,bh]at ht;rcases List.mem_cons.1 ht with rfl|ht
     ·unfold tz;omega
     ·rcases List.mem_append.1 ht with ht|ht
      ·have:=ih (cG x.aa) (by omega) x.aa (du _) t ht;omega
      ·rw[List.mem_singleton.1 ht];exact fI _
    ·rw[hc,bB]at ht;rw[List.mem_singleton.1 ht];unfold tz;omega
   ·have:=Gx (by omega) t ht;omega
theorem O4(s:a7)(hs:s.length≤1048576):Tt (Ap FU s):=by
 unfold Ap;have hl:(bO s).length=s.length:=by simp[bO]
 refine bt (om (λkk a i=>Ci FU s kk i a) (bO s) (λ_ _=>True) (λkk i a h1 h2 _ h3=>?_) (λkk i a h=>?_) FU 0 (bO s) (by rw[hl];unfold FU;omega) trivial) (λa _=>be _)
 ·show Tt (Ci FU s (kk+1) (i:Int) a);rw[Ci,bQ (by omega)];refine jE h1 (bt (iA h1 ?_) (λb _=>h3 b trivial))
  with_reducible repeat' first|exact be _|apply cx|(apply cw<;>intro _)|(apply bt<;>try intro _ _)|apply mw|(apply jR;intro _ _)
 ·show Tt (Ci FU s (kk+1) (i:Int) a);rw[Ci];exact jF h
theorem ajF(a b:a7)(ha:a.length≤1048576)(hb:b.length≤1048576):Tt (LU FU a b):=by
 unfold LU;exact bt (O4 a ha) λ_ _=>bt (O4 b hb) λ_ _=>be _
theorem Zq(s p:a7):Tt (Au s p):=by
 unfold Au Cr
 with_reducible repeat' first|exact be _|apply cx|(apply cw<;>intro _)|(apply bt<;>try intro _ _)|apply mw|(apply jR;intro _ _)
 exact λh=>⟨by unfold ln;omega,uD h⟩
theorem ajG(s p:a7):Tt (LK s p):=by
 unfold LK Q8;refine bt (bt ?_ λb hb=>cw (λe=>mw ?_ (be _)) λ_=>be _) λ_ _=>be _
 ·unfold Cr
  with_reducible repeat' first|exact be _|apply cx|(apply cw<;>intro _)|(apply bt<;>try intro _ _)|apply mw|(apply jR;intro _ _)
  exact λh=>⟨by unfold ln;omega,uD h⟩
 ·unfold Cr at hb;rw[cd (λh=>⟨by unfold ln;omega,uD h⟩),lt_eq]at hb;have hb:=Option.some.inj hb;rw[e]at hb;refine⟨by unfold ln;omega,?_⟩;cases hd:decide (ln p≤ln s)
  ·rw[hd]at hb;cases hb
  ·exact uD hd
theorem ajH{s:a7}(h:(!(s==[]))=true):0≤(0:Int)∧(0:Int)<ln s:=by
 cases s with
 |nil=>cases h
 |cons a s=>unfold ln;simp only[fx];omega
theorem ajI(s:a7):Tt (LM s):=by
 unfold LM;exact bt (ajG s [45]) λ_ _=>mw (λh=>ajH h) (cx (be _))
theorem ajJ(s p:a7)(h:p.length=1):Tt (strings_Contains s p):=by
 unfold strings_Contains strings_Index stringslite_Index;refine bt (bt (cx (cw (λ_=>be _) λ_=>cw (λ_=>mw ?_ (be _)) λe=>?_)) λ_ _=>be _) λ_ _=>be _
 ·unfold ln;omega
 ·rw[show(ln p==1)=true from by unfold ln;rw[h];rfl]at e;cases e
theorem ajK(t:cC)(h:t.di.length+t.Unit.length≤1048576):Tt (LQ t):=by
 unfold LQ;refine mw (by unfold ln;omega) ?_
 with_reducible repeat' first|exact be _|apply cx|(apply cw<;>intro _)|(apply bt<;>try intro _ _)|apply mw|(apply jR;intro _ _)
 ·exact ajI _
 ·exact Zq _ _
 ·intro h;cases hx:decide (strings_IndexByte (t.di++t.Unit) 0<0)
  ·rw[hx]at h;cases h
  ·rw[hx,bB]at h;have:=eq_of_beq h;omega
 ·refine ajJ _ _ ?_;rename_i hx;by_cases e:t.di=[45]
  ·rw[e];rfl
  ·rw[show(t.di==[45])=false from yO.2 e]at hx;cases hd:decide (strings_IndexByte (t.di++t.Unit) 0<0)
   ·rw[hd]at hx;cases hx
   ·rw[hd,bB]at hx;cases h1:(ln t.di==1)
    ·rw[h1]at hx;cases hx
    ·have:=eq_of_beq h1;unfold ln at this;omega
theorem Sr(i k:Int)(u:List cC)(h:0≤i):Tt (Fe i k u):=by
 unfold Fe;exact mw (λe=>⟨h,uD e⟩) (cx (be _))
theorem ajL(l:List cC)(h0:0<l.length)(ht:tz (gi l 0)≤1048576):Tt (LW FU l):=by
 unfold LW;refine mw (by unfold ln;omega) ?_;have hT:(gi l 0).di.length≤1048576:=by unfold tz at ht;omega
 with_reducible repeat' first|exact be _|apply cx|(apply cw<;>intro _)|(apply bt<;>try intro _ _)|apply mw|(apply jR;intro _ _)
 ·exact Sr _ _ _ (by omega)
 ·exact ajF _ _ hT (by decide)
 ·exact Sr _ _ _ (by omega)
 ·rename_i z hz;refine Sr _ _ _ ?_;obtain⟨y,hy⟩:=Sr 1 13 l (by omega);rw[hy,aN]at hz;cases y<;>have:=Option.some.inj hz<;>omega
theorem ajM(l:List cC)(hl:l.length≤1048576)(ht:∀x∈l,tz x≤1048576):Tt (LX FU l):=by
 unfold LX;refine cw (λ_=>be _) λ_=>bt (t0 (HY FU l) l (λkk i h1 h2 h3=>?_) (λkk i h=>?_) (by unfold FU;omega)) λ_ _=>jR λ_ _=>be _
 ·rw[HY,bQ (by omega)];have hx:=ht _ h2;refine jE h1 (iA h1 (bt (bt (ajK _ (by unfold tz at hx;omega)) λ_ _=>cx (cw (λ_=>be _) λ_=>mw (by unfold ln;omega) (cx (bt (ajL _ ?_ ?_) λ_ _=>be _)))) λ_ _=>cw (λ_=>be _) λ_=>h3))
  ·rw[gf];simp[ln];omega
  ·have e:gf l (i:Int) (ln l)=l.drop i:=by
    rw[gf];simp only[ln,Int.toNat_natCast];exact List.take_of_length_le (by simp)
   rw[e,show gi (l.drop i) 0=gi l (i:Int)from by rw[show(0:Int)=((0:Nat):Int)from rfl,hZ _ 0 (by simp;omega),hZ l i h1];simp];exact hx
 ·rw[HY];exact jF h
theorem ajN:∀(k:Nat)(v:List aq),cG v<k→cG v≤1048576→Tt (Fh FU k v):=by
 intro k
 induction k with
 |zero=>intro v h;omega
 |succ k ih=>
  intro v hk hb;have hl:=rL v;rw[Fh];unfold Qd Qc;refine bt (bt (bt (t0 (I0 FU (Fh FU k) v) v (λkk i h1 h2 h3=>?_) (λkk i h=>?_) (by unfold FU;omega)) λ_ _=>jR λ_ _=>be _) λ_ _=>be _) λ_ _=>be _
  ·have h4:=rK h2;have h5:=qg (gi v (i:Int));rw[I0,bQ (by omega)];refine jE h1 (iA h1 (bt ?_ λ_ _=>cw (λ_=>be _) λ_=>h3));unfold Qb;exact cx (bt (cw (λ_=>be _) λ_=>ih _ (by omega) (by omega)) λ_ _=>cx (be _))
  ·rw[I0];exact jF h
theorem ajO(v:List aq)(hl:v.length≤1048576):Tt (LZ FU v):=by
 unfold LZ Qf;refine bt (bt (t0 (I1 FU v) v (λkk i h1 h2 h3=>?_) (λkk i h=>?_) (by unfold FU;omega)) λ_ _=>jR λ_ _=>be _) λ_ _=>be _
 ·rw[I1,bQ (by omega)];refine jE h1 (iA h1 ?_)
  with_reducible repeat' first|exact h3|exact be _|apply cx|(apply cw<;>intro _)|(apply bt<;>try intro _ _)|apply mw
 ·rw[I1];exact jF h
theorem ajP(s:a7)(hs:s.length≤1048576):Tt (LJ FU s):=by
 unfold LJ
 with_reducible repeat' first|exact be _|apply cx|(apply cw<;>intro _)|(apply bt<;>try intro _ _)|apply mw|(apply jR;intro _ _)
 ·exact Zq _ _
 ·exact O4 s hs
theorem a5H(d:cR)(h:zD d≤1048576):Tt (I2 FU d):=by
 have hz:=Br d;have hv:cG d.Value≤1048576:=by omega
 have hl:=rL d.Value;unfold I2;have hf:Tt (HX FU d.Value)∧∀y,HX FU d.Value=some y→y.1.length≤1048576∧∀x∈y.1,tz x≤1048576:=by
  unfold HX;rw[S8 FU YX d.Value hv,aN,ajD d.Value hv];cases(Gy d.Value !=0)
  ·refine⟨be _,λy e=>?_⟩;rw[bh,aN]at e;rw[←Option.some.inj e];exact⟨by have:=Zp _ d.Value (du _);have:=a5G d.Value;show(oq d.Value).length≤_;omega,λx hx=>by have:=ajE _ d.Value (du _) x hx;omega⟩
  ·refine⟨be _,λy e=>?_⟩;rw[bB]at e;rw[←Option.some.inj e];exact⟨by simp,λx hx=>by cases hx⟩
 refine bt hf.1 λy ey=>bt (ajP _ (by omega)) λb _=>bt (cw (λ_=>be _) λ_=>ajM _ (hf.2 y ey).1 (hf.2 y ey).2) λc _=>cx (bt (cw (λ_=>be _) λ_=>ajN _ _ (by unfold FU;omega) hv) λ_ _=>cw (λ_=>be _) λ_=>bt (ajO _ (by omega)) λ_ _=>cw (λ_=>be _) λ_=>bt (cw (λ_=>Zq _ _) λ_=>be _) λq _=>mw ?_ (mw ?_ (cx (cx (cw (λ_=>be _) λ_=>be _)))))
 ·intro h1 _;exact⟨by omega,uD h1⟩
 ·intro _ h1 _;have h2:=uD h1;unfold ln at h2⊢;rw[lE (by omega) (by omega)];omega
theorem a5I(s:a7)(hs:s.length≤1048576):Tt (HN FU s):=by
 unfold HN;exact bt (cw (λ_=>O4 s hs) λ_=>be _) λ_ _=>be _
theorem ajQ(rec:bw→jk→Bool→Option Bool)(x:fc)(p:jk)(hb:zS x≤1048576)(hr:∀c∈x.aa,∀p b,Tt (rec c p b)):Tt (Lw FU rec x p):=by
 have hz:=GD x;have hl:=nX x.aa;have hC:∀d h,Tt (Lv FU rec x.aa d h x.af x.bm x.Op x.Value x.uE x.iS.A x.iS.B x.Of x.aa):=λd h=>by
  unfold Lv PX;refine bt (bt (t0 _ x.aa (λkk i h1 h2 h3=>?_) (λkk i h=>?_) (by unfold FU;omega)) λ_ _=>jR λ_ _=>be _) λ_ _=>be _
  ·rw[Lu,bQ (by omega)];refine jE h1 (iA h1 (bt ?_ λ_ _=>cw (λ_=>be _) λ_=>h3));unfold PU;exact bt (hr _ h2 _ _) λ_ _=>be _
  ·rw[Lu];exact jF h
 unfold Lw
 with_reducible repeat' first|exact be _|apply cx|(apply cw<;>intro _)|(apply bt<;>try intro _ _)|apply mw|(apply jR;intro _ _)
 ·exact hC _ _
 ·exact a5I _ (by omega)
theorem ajR(rec:bw→jk→Bool→Option Bool)(c:gE)(p:jk)(hb:zP c≤1048576)(hr:∀x∈c.bE,∀y∈x.aa,∀p b,Tt (rec y p b)):Tt (Lz FU rec c p):=by
 have hz:=GC c;have hl:=nS c.bE;unfold Lz;refine cx (bt (cw (λ_=>a5I _ (by omega)) λ_=>be _) λ_ _=>cx (cw (λ_=>be _) λ_=>bt (t0 (HP FU rec c p) c.bE (λkk i h1 h2 h3=>?_) (λkk i h=>?_) (by unfold FU;omega)) λ_ _=>jR λ_ _=>cx (be _)))
 ·have h4:=mS h2;rw[HP,bQ (by omega)];exact jE h1 (iA h1 (bt (ajQ rec _ p (by omega) (hr _ h2)) λ_ _=>cw (λ_=>be _) λ_=>h3))
 ·rw[HP];exact jF h
theorem ajS:∀(k:Nat)(c:bw)(p:jk)(b:Bool),zX c<k→zX c≤1048576→Tt (HR FU k c p b):=by
 intro k
 induction k with
 |zero=>intro c p b h;omega
 |succ k ih=>
  intro c p b hk hb;have hz:=JW c;have hl:=nP c.bn;rw[HR];refine cx (cx (cx (cw (λ_=>be _) λ_=>bt (t0 (HQ FU c) c.gj (λkk i h1 h2 h3=>?_) (λkk i h=>?_) (by unfold FU;omega)) λ_ _=>jR λ_ _=>bt ?_ λ_ _=>be _)))
  ·rw[HQ,bQ (by omega)];exact jE h1 (iA h1 (cx (cw (λ_=>be _) λ_=>h3)))
  ·rw[HQ];exact jF h
  ·unfold Q0 PZ;refine bt (bt (t0 _ c.bn (λkk i h1 h2 h3=>?_) (λkk i h=>?_) (by unfold FU;omega)) λ_ _=>jR λ_ _=>be _) λ_ _=>be _
   ·have h4:=mP h2;have h5:=GC (gi c.bn (i:Int));rw[LB,bQ (by omega)];refine jE h1 (iA h1 (bt ?_ λ_ _=>cw (λ_=>be _) λ_=>h3));unfold PY;exact bt (ajR _ _ _ (by omega) (λx hx y hy p b=>by
     have g1:=mS hx;have g2:=GD x;have g3:=mX hy;exact ih y p b (by omega) (by omega))) λ_ _=>be _
   ·rw[LB];exact jF h
theorem ajT:∀(k:Nat)(l:List bw),mu l<k→mu l≤1048576→Tt (sJ FU k l):=by
 intro k
 induction k with
 |zero=>intro l h;omega
 |succ k ih=>
  intro l hk hb;have hl:=nX l;rw[sJ];refine bt (om (λkk (a:Int) i=>Co FU l (sJ FU k) kk a i) l (λ_ _=>True) (λkk i a h1 h2 _ h3=>?_) (λkk i a h=>?_) FU 0 (ln l) (by unfold FU;omega) trivial) λ_ _=>be _
  ·have h4:=mX h2;have h5:=JW (gi l (i:Int));have h6:=nP (gi l (i:Int)).bn;show Tt (Co FU l (sJ FU k) (kk+1) a (i:Int));rw[Co,bQ (by omega)];refine jE h1 (bt (iA h1 (om (λkk (a:Int) j=>Cn FU l (i:Int) (sJ FU k) kk a j) (gi l (i:Int)).bn (λ_ _=>True) (λkk j a g1 g2 _ g3=>?_) (λkk j a h=>?_) FU 0 a (by unfold FU;omega) trivial)) λb _=>h3 b trivial)
   ·have g4:=mP g2;have g5:=GC (gi (gi l (i:Int)).bn (j:Int));have g6:=nS (gi (gi l (i:Int)).bn (j:Int)).bE;show Tt (Cn FU l (i:Int) (sJ FU k) (kk+1) a (j:Int));rw[Cn,bQ (by omega)];refine jE g1 (bt (iA g1 (om (λkk (a:Int) q=>Ck FU l (i:Int) (j:Int) (sJ FU k) kk a q) (gi (gi l (i:Int)).bn (j:Int)).bE (λ_ _=>True) (λkk q a e1 e2 _ e3=>?_) (λkk q a h=>?_) FU 0 a (by unfold FU;omega) trivial)) λb _=>g3 b trivial)
    ·have e4:=mS e2;have e5:=GD (gi (gi (gi l (i:Int)).bn (j:Int)).bE (q:Int));show Tt (Ck FU l (i:Int) (j:Int) (sJ FU k) (kk+1) a (q:Int));rw[Ck,bQ (by omega)];exact cx (jE e1 (iA e1 (cx (cx (cx (cx (cx (cx (cx (cx (bt (ih _ (by omega) (by omega)) λy _=>e3 _ trivial)))))))))))
    ·show Tt (Ck FU l (i:Int) (j:Int) (sJ FU k) (kk+1) a (q:Int));rw[Ck];exact cx (jF h)
   ·show Tt (Cn FU l (i:Int) (sJ FU k) (kk+1) a (j:Int));rw[Cn];exact jF h
  ·show Tt (Co FU l (sJ FU k) (kk+1) a (i:Int));rw[Co];exact jF h
theorem ajU(l:List bw)(hb:mu l≤1048576):Tt (LC FU l):=by
 have hl:=nX l;unfold LC;refine bt (cw (λ_=>be _) λ_=>?_) λ_ _=>cw (λ_=>be _) λ_=>bt (ajT _ l (by unfold FU;omega) hb) λ_ _=>cw (λ_=>be _) λ_=>be _;unfold Q3 Q2;refine bt (bt (t0 (HT FU l) l (λkk i h1 h2 h3=>?_) (λkk i h=>?_) (by unfold FU;omega)) λ_ _=>jR λ_ _=>be _) λ_ _=>be _
 ·have h4:=mX h2;rw[HT,bQ (by omega)];refine jE h1 (iA h1 (bt ?_ λ_ _=>cw (λ_=>be _) λ_=>h3));unfold Q1;exact bt (ajS _ _ _ _ (by unfold FU;omega) (by omega)) λ_ _=>be _
 ·rw[HT];exact jF h
theorem ajV(s:a7)(hs:s.length≤1048576):Tt (M2 FU s):=by
 unfold M2;refine bt ?_ λ_ _=>bt (cw (λ_=>O4 s hs) λ_=>be _) λ_ _=>cx (cx (be _));rw[NS _ _ (by decide)];exact be _
theorem ajW(n:Int):Tt (M3 FU [n]):=by
 unfold M3;refine bt (t0 (I5 FU [n]) [n] (λkk i h1 h2 h3=>?_) (λkk i h=>?_) (by simp;unfold FU;omega)) λ_ _=>jR λ_ _=>be _
 ·rw[I5,bQ (by simp at h1;omega)];refine jE h1 (iA h1 ?_)
  with_reducible repeat' first|exact h3|exact be _|apply cx|(apply cw<;>intro _)|(apply bt<;>try intro _ _)|apply mw
 ·rw[I5];exact jF h
theorem a5J(c:bq)(hb:zC c≤1048576):Tt (I7 FU c):=by
 have hz:=ug c;have hl:=nC c.aa;unfold I7;refine cx (cw (λ_=>be _) λ_=>bt (t0 (I6 FU c) c.aa (λkk i h1 h2 h3=>?_) (λkk i h=>?_) (by unfold FU;omega)) λ_ _=>jR λ_ _=>be _)
 ·have h4:=mC h2;have h5:=ug (gi c.aa (i:Int));rw[I6,bQ (by omega)];refine jE h1 (bt (iA h1 ?_) λ_ _=>jR λ_ _=>h3)
  with_reducible repeat' first|exact be _|apply cx|(apply cw<;>intro _)|(apply bt<;>try intro _ _)|apply mw|(apply jR;intro _ _)
  ·exact ajV _ (by omega)
  ·unfold Qi;exact bt (ajW _) λ_ _=>be _
 ·rw[I6];exact jF h
theorem ajX(c:bq):Tt (M5 c):=by
 unfold M5;exact mw (λe=>⟨by omega,uD e⟩) (cx (be _))
theorem Zr{α:Type}{l:List α}{b:Bool}(h:(cond b (ln l==1) false)=true):0≤(0:Int)∧(0:Int)<ln l:=by
 cases b
 ·cases h
 ·have:=eq_of_beq (show(ln l==1)=true from h);omega
theorem ajY(c:bq)(hb:zC c≤1048576):Tt (M6 FU c):=by
 have hz:=ug c;unfold M6;refine cw (λ_=>cx (mw (λh=>Zr h) (bt (cw (λh=>a5J _ ?_) λ_=>be _) λy _=>mw (λh=>?_) (bt (cw (λ_=>ajX _) λ_=>be _) λ_ _=>be _)))) λ_=>bt (a5J c hb) λ_ _=>be _
 ·have h1:=Zr h;have:gi c.aa (0:Int)∈c.aa:=rM (i:=0) (by unfold ln at h1;omega);have:=mC this;omega
 ·cases hx:(cond (o0 c) (ln c.aa==1) false)
  ·rw[hx]at h;cases h
  ·exact Zr hx
theorem a5K(c:bq)(hb:zC c≤1048576):Tt (I9 FU c):=by
 have hz:=ug c;have hl:=nC c.aa;unfold I9;refine cx (cx (cx (bt (cw (λ_=>?_) λ_=>be _) λ_ _=>cx (cw (λ_=>be _) λ_=>be _))));unfold Qm Ql;refine bt (bt (t0 (I8 FU c.aa) c.aa (λkk i h1 h2 h3=>?_) (λkk i h=>?_) (by unfold FU;omega)) λ_ _=>jR λ_ _=>be _) λ_ _=>be _
 ·have h4:=mC h2;rw[I8,bQ (by omega)];refine jE h1 (iA h1 (bt ?_ λ_ _=>cw (λ_=>be _) λ_=>h3));unfold Qk;exact bt (ajY _ (by omega)) λ_ _=>be _
 ·rw[I8];exact jF h
theorem Zs(v:List aq)(hb:cG v≤1048576):Tt (F9 FU v):=by
 unfold F9;rw[S8 FU (by decide) v hb,aN,show LH FU v 0=_ from a5a FU (by decide) FU v 0 (by unfold FU;omega) hb];exact cw (λ_=>be _) λ_=>bt (be _) λ_ _=>be _
theorem ajZ:∀(k:Nat)(c:bq)(n:Int),zC c<k→zC c≤1048576→Tt (Ay FU k c n):=by
 intro k
 induction k with
 |zero=>intro c n h;omega
 |succ k ih=>
  intro c n hk hb;have hz:=ug c;have hD:=Br c.aQ;have hl:=nC c.aa;rw[Ay];refine cw (λ_=>be _) λ_=>cw (λ_=>bt (Zs _ (by omega)) λ_ _=>cx (cx (bt (cw (λ_=>a5H _ (by omega)) λ_=>be _) λ_ _=>be _))) λ_=>cw (λ_=>cx (be _)) λ_=>bt ?_ λ_ _=>cw (λ_=>cx (cx (cw (λ_=>be _) λ_=>bt (om (λkk (a:Int×Int) i=>Cy FU c (Ay FU k) kk a.1 i a.2) c.aa (λ_ _=>True) (λkk i a h1 h2 _ h3=>?_) (λkk i a h=>?_) FU 0 (0,J (n+1)) (by unfold FU;omega) trivial) λ_ _=>jR λ_ _=>be _))) λ_=>be _
  ·with_reducible repeat' first|exact be _|apply cx|(apply cw<;>intro _)|(apply bt<;>try intro _ _)|apply mw|(apply jR;intro _ _)
  ·have h4:=mC h2;show Tt (Cy FU c (Ay FU k) (kk+1) a.1 (i:Int) a.2);rw[Cy,bQ (by omega)];refine jE h1 (iA h1 (bt (ih _ _ (by omega) (by omega)) λy _=>cw (λ_=>be _) λ_=>bt ?_ λz _=>h3 (_,_) trivial));exact cw (λ_=>be _) λ_=>be _
  ·show Tt (Cy FU c (Ay FU k) (kk+1) a.1 (i:Int) a.2);rw[Cy];exact jF h
theorem Zt(c:bq)(hb:zC c≤1048576):Tt (Fo FU c):=by
 unfold Fo;exact bt (ajZ _ c _ (by unfold FU;omega) hb) λ_ _=>cx (cw (λ_=>be _) λ_=>be _)
mutual
def Bs:bq→List cR
 | .mk K _ _ D l=>cond (K==7) [D] (qW l)
def qW:List bq→List cR
 |[]=>[]
 |v::r=>Bs v++qW r
end
theorem Zu(c:bq):Bs c=cond (c.af==7) [c.aQ] (qW c.aa):=by obtain⟨a,b,d,e,l⟩:=c;rw[Bs];rfl
theorem a5L(n:Nat):∀c:bq,zC c≤n→(Bs c).length≤zC c∧∀d∈Bs c,zD d≤zC c:=by
 induction n using Nat.strongRecOn with
 |_ n ih=>
  intro c h;have hz:=ug c;have hD:=Br c.aQ;have hl:∀l:List bq,(∀x∈l,zC x<n)→(qW l).length≤zL zC l∧∀d∈qW l,zD d≤zL zC l:=by
   intro l
   induction l with
   |nil=>intro _;rw[qW];exact⟨fI _,λd hd=>by cases hd⟩
   |cons v r Gx=>
    intro hm;have h1:=ih (zC v) (hm v List.mem_cons_self) v (du _);have h2:=Gx λx hx=>hm x (List.mem_cons_of_mem _ hx);rw[qW,zL,fg];refine⟨by omega,λd hd=>?_⟩;rcases List.mem_append.1 hd with hd|hd
    ·have:=h1.2 d hd;omega
    ·have:=h2.2 d hd;omega
  have hl:=hl c.aa (λx hx=>by have:=mC hx;omega);rw[←Sf]at hl;rw[Zu];cases(c.af==7)
  ·refine⟨by have:=hl.1;rw[bh];omega,λd hd=>by have:=hl.2 d hd;omega⟩
  ·refine⟨by rw[bB,List.length_singleton];omega,λd hd=>?_⟩;rw[List.mem_singleton.1 hd];omega
theorem ak0(l:List bq):(qW l).length≤ue l:=by
 induction l with
 |nil=>exact fI _
 |cons v r ih=>
  have:=(a5L _ v (du _)).1;rw[qW,ue,fg];omega
theorem a5M{l:List bq}{i:Nat}(h:i<l.length):qW (l.drop i)=Bs (gi l (i:Int))++qW (l.drop (i+1)):=by
 rw[ov h,qW,←hZ l i h]
theorem ak1(v:List aq)(i:Nat)(h:i<v.length):cj v (i:Int) (aq.mk (gi v (i:Int)).aT (gi v (i:Int)).aa)=v:=by
 have e:aq.mk (gi v (i:Int)).aT (gi v (i:Int)).aa=v[i]:=by
  rw[hZ v i h];obtain⟨t,l⟩:=v[i];rfl
 rw[e];unfold cj;rw[show((i:Int)).toNat=i from Int.toNat_natCast i,List.set_getElem_self]
theorem ak2:∀(k:Nat)(v:List aq),cG v<k→cG v≤1048576→CA FU k v=some v:=by
 intro k
 induction k with
 |zero=>intro v h;omega
 |succ k ih=>
  intro v h hb;have hl:=rL v;have H:∀(kk i:Nat),v.length-i<kk→Ie FU v (CA FU k) kk v (i:Int)=some v:=by
   intro kk
   induction kk with
   |zero=>intro i h;omega
   |succ kk Ep=>
    intro i h;rw[Ie];by_cases h1:i<v.length
    ·have h3:=rK (rM h1);have h4:=qg (gi v (i:Int));rw[dL h1,ej h1,ih _ (by omega) (by omega),aN,lt_eq,ak1 v i h1,bQ (by omega),Ep (i+1) (by omega)]
    ·rw[mB (by omega)];rfl
  rw[CA];unfold Qt;rw[cd (by unfold ln;rw[ia];omega),lt_eq,aN];show Option.bind (Ie FU v (CA FU k) FU v ((0:Nat):Int)) _=_;rw[H FU 0 (by unfold FU;omega)];rfl
theorem a5N:∀(v:List aq)(k:Nat),cG (v.drop k)≤cG v
 |[],k=>by simp
 |x::v,0=>du _
 |x::v,k+1=>by rw[List.drop_succ_cons,cG];have:=a5N v k;omega
theorem a5O:∀(v:List aq)(k:Nat),cG (v.take k)≤cG v
 |[],k=>by simp
 |x::v,0=>by simp[cG]
 |x::v,k+1=>by rw[List.take_succ_cons,cG,cG];have:=a5O v k;omega
theorem ak3(v:List aq)(hl:v.length≤1048576):∀(kk i:Nat),v.length-i<kk→i≤v.length→∃z:Nat,Ig FU v kk (i:Int)=some (z:Int)∧z≤v.length:=by
 intro kk
 induction kk with
 |zero=>intro i h;omega
 |succ kk ih=>
  intro i hk hi;rw[Ig,bQ (by omega)];by_cases h:i<v.length
  ·unfold Ic;rw[qw h,bB,ej h,aN,bB];cases(gi v (i:Int)).aT.af==13
   ·exact⟨i,rfl,hi⟩
   ·exact ih (i+1) (by omega) (by omega)
  ·rw[mB (by omega)];exact⟨i,rfl,hi⟩
theorem ak4(v:List aq)(hl:v.length≤1048576)(z:Nat):∀(kk j:Nat),j<kk→z≤j→j≤v.length→∃y:Nat,Ih FU v (z:Int) kk (j:Int)=some (y:Int)∧z≤y∧y≤v.length:=by
 intro kk
 induction kk with
 |zero=>intro j h;omega
 |succ kk ih=>
  intro j hk hz hj;rw[Ih];by_cases h:z<j
  ·have e:J ((j:Int)-1)=((j-1:Nat):Int):=lE (by omega) (by omega);unfold Ic;rw[show decide ((z:Int)<(j:Int))=true from kq (by omega),bB,e,ej (by omega),aN,bB];cases(gi v ((j-1:Nat):Int)).aT.af==13
   ·exact⟨j,rfl,hz,hj⟩
   ·exact ih (j-1) (by omega) (by omega) (by omega)
  ·rw[show decide ((z:Int)<(j:Int))=false from eK (by omega)];exact⟨j,rfl,hz,hj⟩
theorem ak5(v:List aq)(hb:cG v≤1048576):∃y,Md FU v=some y∧cG y.1≤cG v:=by
 have hl:=rL v;unfold Md;rw[S8 FU (by decide) v hb,aN];cases(Gy v !=0)
 ·obtain⟨z,e1,h1⟩:=ak3 v (by omega) FU 0 (by unfold FU;omega) (fI _);obtain⟨y,e2,h2,h3⟩:=ak4 v (by omega) z FU v.length (by unfold FU;omega) h1 (du _);have qm:Ig FU v FU 0=some (z:Int):=e1;have Zv:Ih FU v (z:Int) FU (ln v)=some (y:Int):=e2;have hs:cG (gf v (z:Int) (y:Int))≤cG v:=by
   rw[gf];exact Nat.le_trans (a5O _ _) (a5N _ _)
  rw[bh,qm,aN,Zv,aN,cd (by unfold ln;omega),lt_eq];unfold Wp;rw[ak2 FU _ (by unfold FU;omega) (by omega),aN];exact⟨_,rfl,hs⟩
 ·exact⟨_,rfl,by simp[cG]⟩
abbrev Dk(d:cR):Prop:=d.bm.length≤1048576∧cG d.Value≤1048576
theorem a5P:∀(k:Nat)(c:bq),zC c<k→zC c≤1048576→∃ds,CB FU k c=some ds∧ds.length=(Bs c).length∧∀d∈ds,Dk d:=by
 intro k
 induction k with
 |zero=>intro c h;omega
 |succ k ih=>
  intro c hk hb;have hz:=ug c;have hD:=Br c.aQ;have hl:=nC c.aa;have hd:=ak0 c.aa;rw[CB,Zu];cases c.af==7
  ·have L:∀(kk i:Nat)(a:List cR),c.aa.length-i<kk→a.length+(qW (c.aa.drop i)).length≤1048576→(∀d∈a,Dk d)→∃ds,Ii FU c (CB FU k) kk a (i:Int)=some ds∧ds.length=a.length+(qW (c.aa.drop i)).length∧∀d∈ds,Dk d:=by
    intro kk
    induction kk with
    |zero=>intro i a h;omega
    |succ kk Zw=>
     intro i a h ha hq;rw[Ii];by_cases hi:i<c.aa.length
     ·have h1:=mC (rM hi);obtain⟨ds,e,g1,g2⟩:=ih (gi c.aa (i:Int)) (by omega) (by omega);rw[a5M hi,fg]at ha⊢;rw[dL hi,ej hi,e,aN,cd (by unfold ln;omega),lt_eq,bQ (by omega)];obtain⟨ds2,e2,g3,g4⟩:=Zw (i+1) (a++ds) (by omega) (by rw[fg];omega) (λd hd=>by
       rcases List.mem_append.1 hd with hd|hd
       ·exact hq d hd
       ·exact g2 d hd)
      exact⟨ds2,e2,by rw[g3,fg];omega,g4⟩
     ·rw[dG (by omega),yP (by omega)];exact⟨a,rfl,by rw[qW];rfl,hq⟩
   obtain⟨ds,e,g1,g2⟩:=L FU 0 [] (by unfold FU;omega) (by rw[pa];simp;omega) (λd hd=>by cases hd);have e':Ii FU c (CB FU k) FU ([]:List cR) 0=some ds:=e;rw[bh,bh,e',aN];exact⟨ds,rfl,by rw[g1,pa];simp,g2⟩
  ·obtain⟨y,e,g⟩:=ak5 c.aQ.Value (by omega);rw[bB,bB,e,aN];exact⟨_,rfl,rfl,λd hd=>by rw[List.mem_singleton.1 hd];exact⟨by show c.aQ.bm.length≤_;omega,by show cG y.1≤_;omega⟩⟩
theorem ak6(w:Int)(iI:List Bool)(hy:iI.length≤1048576):∀(k:Nat)(c:bq)(n:Nat),zC c<k→zC c≤1048576→n+(Bs c).length≤iI.length→∃(b:Bool)(n':Nat),AU FU k c w (n:Int) iI=some (b,(n':Int))∧n'≤n+(Bs c).length:=by
 intro k
 induction k with
 |zero=>intro c n h;omega
 |succ k ih=>
  intro c n hk hb hn;have hz:=ug c;have hl:=nC c.aa;rw[AU,lt_eq];cases c.af==4 with
  |true=>exact⟨_,n,rfl,by omega⟩
  |false=>
   rw[bh];cases c.af==5 with
   |true=>exact⟨_,n,rfl,by omega⟩
   |false=>
    rw[bh];cases c.af==6 with
    |true=>exact⟨_,n,rfl,by omega⟩
    |false=>
     rw[bh];rw[Zu]at hn⊢;cases h7:c.af==7 with
     |true=>
      rw[h7]at hn;rw[bB]at hn⊢;rw[List.length_singleton]at hn;unfold QV;have e:J (J ((n:Int)+1)-1)=(n:Int):=by rw[bQ (by omega),lE (by omega) (by omega)];rfl
      rw[bB,e,ej (by omega),aN,bQ (by omega)];exact⟨_,n+1,rfl,by simp⟩
     |false=>
      rw[h7]at hn;rw[bh]at hn⊢;rw[bh];cases c.af==8 with
      |true=>exact⟨_,n,rfl,by omega⟩
      |false=>
       have L:∀(kk i n:Nat)(a b:Bool),c.aa.length-i<kk→n+(qW (c.aa.drop i)).length≤iI.length→∃(a' b':Bool)(n':Nat),IV FU c w iI (AU FU k) kk a b (i:Int) (n:Int)=some (a',b',(n':Int))∧n'≤n+(qW (c.aa.drop i)).length:=by
        intro kk
        induction kk with
        |zero=>intro i n a b h;omega
        |succ kk Zw=>
         intro i n a b h hn;rw[IV];by_cases hi:i<c.aa.length
         ·have h1:=mC (rM hi);rw[a5M hi,fg]at hn⊢;obtain⟨x,n1,e,g1⟩:=ih (gi c.aa (i:Int)) n (by omega) (by omega) (by omega);rw[dL hi,ej hi,e,aN,bQ (by omega)];obtain⟨a',b',n',e2,g2⟩:=Zw (i+1) n1 (cond a x false) (cond b true x) (by omega) (by omega);exact⟨a',b',n',e2,by omega⟩
         ·rw[dG (by omega)];exact⟨a,b,n,rfl,by omega⟩
       obtain⟨a',b',n',e,g⟩:=L FU 0 n true false (by unfold FU;omega) (by rw[pa];exact hn);rw[pa]at g;have e':IV FU c w iI (AU FU k) FU true false 0 (n:Int)=some (a',b',(n':Int)):=e;rw[bh,e',aN];dsimp only;cases c.af==1 with
       |true=>exact⟨_,n',rfl,g⟩
       |false=>
        rw[bh];cases c.af==2 with
        |true=>exact⟨_,n',rfl,g⟩
        |false=>exact⟨_,n',rfl,g⟩
theorem ak7(c:bq)(e:js)(iI:List Bool)(hb:zC c≤1048576)(hw:e.cY≤1000000000)(hy:iI.length≤1048576):Tt (N3 FU c e iI):=by
 unfold N3 QU;refine bt (bt (a5K c hb) λ_ _=>cw (λ_=>bt (Zt c hb) λ_ _=>be _) λ_=>be _) λ_ _=>cw (λ_=>be _) λ_=>cw (λ_=>be _) λ_=>mw (eK (by omega)) ?_;obtain⟨ds,e1,g1,g2⟩:=a5P FU c (by unfold FU;omega) hb;unfold Mf;rw[e1,aN];refine cx (cw (λ_=>be _) λh=>?_);have hn:ln iI=ln ds:=by
  cases hx:(ln iI !=ln ds)
  ·simpa using hx
  ·rw[hx]at h;revert h;cases decide (1000000000<e.cY)<;>intro h<;>cases h
 obtain⟨b,n',e2,_⟩:=ak6 (J (1000*e.cY)) iI hy FU c 0 (by unfold FU;omega) hb (by unfold ln at hn;omega);unfold Xr;have Zv:AU FU FU c (J (1000*e.cY)) 0 iI=some (b,(n':Int)):=e2;rw[Zv];exact be _
theorem ak8(r:bp)(e:js)(hb:zR r≤1048576)(hw:e.cY≤1000000000):Tt (wT FU r e):=by
 have hz:=JX r;unfold wT;have K:Tt (cond (r.af==3) (Option.bind (Ft FU r.aS) λfT=>CT FU fT FU ([]:List Bool) 0) (cond (r.af==2) (some (.inr ([]:List Bool))) (some (.inl true))))∧∀z,cond (r.af==3) (Option.bind (Ft FU r.aS) λfT=>CT FU fT FU ([]:List Bool) 0) (cond (r.af==2) (some (.inr ([]:List Bool))) (some (.inl true)))=some z→match z with| .inl _=>True| .inr s=>s.length≤1048576:=by
  cases r.af==3
  ·rw[bh];cases r.af==2
   ·exact⟨be _,λz h=>by rw[←Option.some.inj h];trivial⟩
   ·exact⟨be _,λz h=>by rw[←Option.some.inj h];simp⟩
  ·rw[bB];have D:∃ds x,Ft FU r.aS=some (ds,x)∧ds.length≤1048576∧∀d∈ds,Dk d:=by
    unfold Ft;obtain⟨s,es⟩:=Zt r.aS (by omega);rw[es,aN];cases(s !=0)
    ·obtain⟨ds,e1,g1,g2⟩:=a5P FU r.aS (by unfold FU;omega) (by omega);have:=(a5L _ r.aS (du _)).1;unfold Mf;rw[bh,e1,aN];exact⟨ds,0,rfl,by omega,g2⟩
    ·exact⟨[],s,rfl,by simp,λd hd=>by cases hd⟩
   obtain⟨ds,x,eD,gl,gq⟩:=D;rw[eD,aN];have L:∀(kk i:Nat)(a:List Bool),ds.length-i<kk→i≤ds.length→a.length=i→∃s:List Bool,CT FU (ds,x) kk a (i:Int)=some (.inr s)∧s.length=ds.length:=by
    intro kk
    induction kk with
    |zero=>intro i a h;omega
    |succ kk ih=>
     intro i a h hi ha;rw[CT];dsimp only;by_cases h1:i<ds.length
     ·have q:=gq _ (rM h1);rw[dL h1,ej h1,aiJ _ q.1 q.2,aN,cd (by simp only[ln,List.length_singleton];omega),lt_eq,bQ (by omega)];exact ih (i+1) _ (by omega) (by omega) (by rw[fg,ha];rfl)
     ·rw[dG (by omega)];exact⟨a,rfl,by omega⟩
   obtain⟨s,e1,g1⟩:=L FU 0 [] (by unfold FU;omega) (fI _) rfl;have qm:CT FU (ds,x) FU ([]:List Bool) 0=some (.inr s):=e1;rw[qm];exact⟨be _,λz h=>by rw[←Option.some.inj h];show s.length≤_;omega⟩
 refine bt K.1 λz uq=>?_;have:=K.2 z uq;cases z with
 |inl a=>exact⟨a,rfl⟩
 |inr s=>exact bt (ak7 r.aS e s (by omega) hw this) λ_ _=>be _
theorem ak9(l:List a7)(hl:l.length≤1048576):Tt (Li FU l):=by
 unfold Li PQ PP;refine cx (bt (cw (λ_=>bt (bt (t0 (HK FU l) l (λkk i h1 h2 h3=>?_) (λkk i h=>?_) (by unfold FU;omega)) λ_ _=>jR λ_ _=>be _) λ_ _=>be _) λ_=>be _) λ_ _=>be _)
 ·rw[HK,bQ (by omega)];exact jE h1 (iA h1 (cw (λ_=>be _) λ_=>h3))
 ·rw[HK];exact jF h
theorem a5Q:∀l:List a7,l.length≤(l.map λx=>x.length+1).sum
 |[]=>du _
 |x::l=>by have:=a5Q l;rw[List.map_cons,List.sum_cons,fx];omega
theorem aka(l:List (List a7))(hb:kf l≤1048576):Tt (Lj FU l):=by
 have hl:=nN l;unfold Lj PS;refine bt (bt (t0 (HM FU l) l (λkk i h1 h2 h3=>?_) (λkk i h=>?_) (by unfold FU;omega)) λ_ _=>jR λ_ _=>be _) λ_ _=>be _
 ·have h4:=mN h2;rw[HM,bQ (by omega)];refine jE h1 (iA h1 (bt ?_ λ_ _=>cw (λ_=>be _) λ_=>h3));unfold PR;have h5:=a5Q (gi l (i:Int));exact bt (ak9 _ (by unfold rJ at h4;omega)) λ_ _=>be _
 ·rw[HM];exact jF h
theorem akb:∀(k:Nat)(l:List bw),mu l<k→mu l≤1048576→Tt (sG FU k l):=by
 intro k
 induction k with
 |zero=>intro l h;omega
 |succ k ih=>
  intro l hk hb;have hl:=nX l;rw[sG];refine bt (om (λkk (a:Int) i=>Cf FU l (sG FU k) kk a i) l (λ_ _=>True) (λkk i a h1 h2 _ h3=>?_) (λkk i a h=>?_) FU 0 0 (by unfold FU;omega) trivial) λ_ _=>be _
  ·have h4:=mX h2;have h5:=JW (gi l (i:Int));have h6:=nP (gi l (i:Int)).bn;show Tt (Cf FU l (sG FU k) (kk+1) a (i:Int));rw[Cf,bQ (by omega)];refine jE h1 (bt (iA h1 (om (λkk (a:Int) j=>Ce FU l (i:Int) (sG FU k) kk a j) (gi l (i:Int)).bn (λ_ _=>True) (λkk j a g1 g2 _ g3=>?_) (λkk j a h=>?_) FU 0 a (by unfold FU;omega) trivial)) λb _=>h3 b trivial)
   ·have g4:=mP g2;have g5:=GC (gi (gi l (i:Int)).bn (j:Int));have g6:=nS (gi (gi l (i:Int)).bn (j:Int)).bE;show Tt (Ce FU l (i:Int) (sG FU k) (kk+1) a (j:Int));rw[Ce,bQ (by omega)];refine jE g1 (bt (iA g1 (om (λkk (a:Int) q=>Ca FU l (i:Int) (j:Int) (sG FU k) kk a q) (gi (gi l (i:Int)).bn (j:Int)).bE (λ_ _=>True) (λkk q a e1 e2 _ e3=>?_) (λkk q a h=>?_) FU 0 a (by unfold FU;omega) trivial)) λb _=>g3 b trivial)
    ·have e4:=mS e2;have e5:=GD (gi (gi (gi l (i:Int)).bn (j:Int)).bE (q:Int));show Tt (Ca FU l (i:Int) (j:Int) (sG FU k) (kk+1) a (q:Int));rw[Ca,bQ (by omega)];refine cx (jE e1 (bt (iA e1 ?_) λy _=>e3 _ trivial))
     with_reducible repeat' first|exact be _|apply cx|(apply cw<;>intro _)|(apply bt<;>try intro _ _)|apply mw|(apply jR;intro _ _)
     exact ih _ (by omega) (by omega)
    ·show Tt (Ca FU l (i:Int) (j:Int) (sG FU k) (kk+1) a (q:Int));rw[Ca];exact cx (jF h)
   ·show Tt (Ce FU l (i:Int) (sG FU k) (kk+1) a (j:Int));rw[Ce];exact jF h
  ·show Tt (Cf FU l (sG FU k) (kk+1) a (i:Int));rw[Cf];exact jF h
theorem akc:∀(k:Nat)(c:bq),zC c<k→zC c≤1048576→Tt (Aw FU k c):=by
 intro k
 induction k with
 |zero=>intro c h;omega
 |succ k ih=>
  intro c hk hb;have hz:=ug c;have hl:=nC c.aa;rw[Aw];refine bt (cw (λ_=>be _) λ_=>be _) λz _=>bt (om (λkk (a:Int) i=>Cv FU c (Aw FU k) kk a i) c.aa (λ_ _=>True) (λkk i a h1 h2 _ h3=>?_) (λkk i a h=>?_) FU 0 z (by unfold FU;omega) trivial) λ_ _=>be _
  ·have h4:=mC h2;show Tt (Cv FU c (Aw FU k) (kk+1) a (i:Int));rw[Cv,bQ (by omega)];exact jE h1 (iA h1 (bt (ih _ (by omega) (by omega)) λ_ _=>h3 _ trivial))
  ·show Tt (Cv FU c (Aw FU k) (kk+1) a (i:Int));rw[Cv];exact jF h
theorem akd:∀(k:Nat)(c:bq),zC c<k→zC c≤1048576→Tt (Ax FU k c):=by
 intro k
 induction k with
 |zero=>intro c h;omega
 |succ k ih=>
  intro c hk hb;have hz:=ug c;have hD:=Br c.aQ;have hl:=nC c.aa;rw[Ax];refine cw (λ_=>bt (Zs _ (by omega)) λ_ _=>be _) λ_=>cw (λ_=>be _) λ_=>bt (om (λkk (a:Int) i=>Cx FU c (Ax FU k) kk a i) c.aa (λ_ _=>True) (λkk i a h1 h2 _ h3=>?_) (λkk i a h=>?_) FU 0 0 (by unfold FU;omega) trivial) λ_ _=>be _
  ·have h4:=mC h2;show Tt (Cx FU c (Ax FU k) (kk+1) a (i:Int));rw[Cx,bQ (by omega)];exact jE h1 (iA h1 (bt (ih _ (by omega) (by omega)) λ_ _=>bt (cx (cw (λ_=>be _) λ_=>be _)) λ_ _=>h3 _ trivial))
  ·show Tt (Cx FU c (Ax FU k) (kk+1) a (i:Int));rw[Cx];exact jF h
theorem ake(l:List bp)(i:Nat)(y:Int)(hb:rI (gi l (i:Int)).cW≤1048576)(b:Bool)(d:Int):Tt (AA FU l (i:Int) y FU b 0 d):=by
 have hl:=nD (gi l (i:Int)).cW;refine om (λkk (a:Bool×Int) j=>AA FU l (i:Int) y kk a.1 j a.2) (gi l (i:Int)).cW (λ_ _=>True) (λkk j a h1 h2 _ h3=>?_) (λkk j a h=>?_) FU 0 (b,d) (by unfold FU;omega) trivial
 ·have h4:=mD h2;have h5:=Br (gi (gi l (i:Int)).cW (j:Int));show Tt (AA FU l (i:Int) y (kk+1) a.1 (j:Int) a.2);rw[AA,bQ (by omega)];exact jE h1 (iA h1 (bt (Zs _ (by omega)) λ_ _=>bt (cw (λ_=>be _) λ_=>a5H _ (by omega)) λ_ _=>cx (h3 (_,_) trivial)))
 ·show Tt (AA FU l (i:Int) y (kk+1) a.1 (j:Int) a.2);rw[AA];exact jF h
theorem akf:∀(k:Nat)(l:List bp),dZ l<k→dZ l≤1048576→Tt (AE FU k l):=by
 intro k
 induction k with
 |zero=>intro l h;omega
 |succ k ih=>
  intro l hk hb;have hl:=nR l;rw[AE];refine bt (om (λkk (a:Int×Int×Bool) i=>Cz FU l (AE FU k) kk i a.1 a.2.1 a.2.2) l (λ_ _=>True) (λkk i a h1 h2 _ h3=>?_) (λkk i a h=>?_) FU 0 (0,0,false) (by unfold FU;omega) trivial) λ_ _=>be _
  ·have h4:=mR h2;have h5:=JX (gi l (i:Int));show Tt (Cz FU l (AE FU k) (kk+1) (i:Int) a.1 a.2.1 a.2.2);rw[Cz,bQ (by omega)];refine jE h1 (bt (iA h1 (bt (ih _ (by omega) (by omega)) λy _=>cx (bt (aka _ (by omega)) λn _=>bt ?_ λz _=>cx (be _)))) λz _=>h3 (z.1,z.2.1,z.2.2) trivial);refine cw (λ_=>?_) λ_=>cw (λ_=>?_) λ_=>cw (λ_=>?_) λ_=>cw (λ_=>cx (cx (cx (be _)))) λ_=>cw (λ_=>cx (cx (cx (cx (cx (be _)))))) λ_=>be _
   ·exact bt (akb FU _ (by unfold FU;omega) (by omega)) λ_ _=>bt (cw (λ_=>be _) λ_=>ajU _ (by omega)) λ_ _=>cx (cx (cx (cx (ake l i _ (by omega) _ _))))
   ·exact bt (akc FU _ (by unfold FU;omega) (by omega)) λ_ _=>cx (cx (bt (cw (λ_=>be _) λ_=>a5K _ (by omega)) λ_ _=>be _))
   ·exact bt (akd FU _ (by unfold FU;omega) (by omega)) λ_ _=>cx (cx (bt (cw (λ_=>be _) λ_=>Zt _ (by omega)) λ_ _=>be _))
  ·show Tt (Cz FU l (AE FU k) (kk+1) (i:Int) a.1 a.2.1 a.2.2);rw[Cz];exact jF h
theorem akg(s:tE)(hb:dZ s.br≤1048576):Tt (Ib FU s):=by
 unfold Ib Qr;exact bt (bt (akf FU _ (by unfold FU;omega) hb) λ_ _=>cx (cw (λ_=>be _) λ_=>be _)) λ_ _=>be _
theorem a5R(s:fJ):zO s=dZ s.ed.br+4:=by unfold zO;omega
theorem akh(l:List fJ)(hb:iP l≤1048576):Tt (zp FU l):=by
 have hl:=nO l;unfold zp;refine cw (λ_=>be _) λ_=>bt (t0 (zo FU l) l (λkk i h1 h2 h3=>?_) (λkk i h=>?_) (by unfold FU;omega)) λ_ _=>jR λ_ _=>be _
 ·have h4:=mO h2;rw[a5R]at h4;rw[zo,bQ (by omega)];exact jE h1 (iA h1 (cx (bt (cw (λ_=>be _) λ_=>akg _ (by show dZ (gi l (i:Int)).ed.br≤_;omega)) λ_ _=>cw (λ_=>be _) λ_=>h3)))
 ·rw[zo];exact jF h
theorem a5S:∀(k:Nat)(l:List bp),dZ l<k→dZ l≤1048576→Tt (Bl FU k l):=by
 intro k
 induction k with
 |zero=>intro l h;omega
 |succ k ih=>
  intro l hk hb;have hl:=nR l;rw[Bl];refine bt (om (λkk (a:Int) i=>DJ FU l (Bl FU k) kk a i) l (λ_ _=>True) (λkk i a h1 h2 _ h3=>?_) (λkk i a h=>?_) FU 0 (ln l) (by unfold FU;omega) trivial) λ_ _=>be _
  ·have h4:=mR h2;have h5:=JX (gi l (i:Int));show Tt (DJ FU l (Bl FU k) (kk+1) a (i:Int));rw[DJ,bQ (i:=i) (by omega)];exact jE h1 (iA h1 (bt (ih _ (by omega) (by omega)) λ_ _=>h3 _ trivial))
  ·show Tt (DJ FU l (Bl FU k) (kk+1) a (i:Int));rw[DJ];exact jF h
theorem aki:∀(k:Nat)(l:List bw)(q:Int),mu l<k→mu l≤1048576→Tt (ti FU k l q):=by
 intro k
 induction k with
 |zero=>intro l q h;omega
 |succ k ih=>
  intro l q hk hb;have hl:=nX l;rw[ti];refine bt (om (λkk (a:Int) i=>DD FU l q (ti FU k) kk a i) l (λ_ _=>True) (λkk i a h1 h2 _ h3=>?_) (λkk i a h=>?_) FU 0 0 (by unfold FU;omega) trivial) λ_ _=>be _
  ·have h4:=mX h2;have h5:=JW (gi l (i:Int));have h6:=nP (gi l (i:Int)).bn;show Tt (DD FU l q (ti FU k) (kk+1) a (i:Int));rw[DD,bQ (i:=i) (by omega)];refine cx (cw (λ_=>bt (iA h1 (cx (om (λkk (a:Int) j=>DC FU l q (i:Int) (ti FU k) kk a j) (gi l (i:Int)).bn (λ_ _=>True) (λkk j a g1 g2 _ g3=>?_) (λkk j a h=>?_) FU 0 _ (by unfold FU;omega) trivial))) λb _=>h3 b trivial) λ_=>be _)
   ·have g4:=mP g2;have g5:=GC (gi (gi l (i:Int)).bn (j:Int));have g6:=nS (gi (gi l (i:Int)).bn (j:Int)).bE;show Tt (DC FU l q (i:Int) (ti FU k) (kk+1) a (j:Int));rw[DC,bQ (i:=j) (by omega)];refine cx (cw (λ_=>bt (iA g1 (cx (om (λkk (a:Int) w=>DA FU l q (i:Int) (j:Int) (ti FU k) kk a w) (gi (gi l (i:Int)).bn (j:Int)).bE (λ_ _=>True) (λkk w a e1 e2 _ e3=>?_) (λkk w a h=>?_) FU 0 _ (by unfold FU;omega) trivial))) λb _=>g3 b trivial) λ_=>be _)
    ·have e4:=mS e2;have e5:=GD (gi (gi (gi l (i:Int)).bn (j:Int)).bE (w:Int));show Tt (DA FU l q (i:Int) (j:Int) (ti FU k) (kk+1) a (w:Int));rw[DA,bQ (i:=w) (by omega)];exact cx (cw (λ_=>iA e1 (cx (cx (bt (ih _ _ (by omega) (by omega)) λ_ _=>cx (e3 _ trivial))))) λ_=>be _)
    ·show Tt (DA FU l q (i:Int) (j:Int) (ti FU k) (kk+1) a (w:Int));rw[DA,mB h];exact⟨_,rfl⟩
   ·show Tt (DC FU l q (i:Int) (ti FU k) (kk+1) a (j:Int));rw[DC,mB h];exact⟨_,rfl⟩
  ·show Tt (DD FU l q (ti FU k) (kk+1) a (i:Int));rw[DD,mB h];exact⟨_,rfl⟩
theorem akj:∀(k:Nat)(v:List aq)(q:Int),cG v<k→cG v≤1048576→Tt (Bh FU k v q):=by
 intro k
 induction k with
 |zero=>intro v q h;omega
 |succ k ih=>
  intro v q hk hb;have hl:=rL v;rw[Bh];refine bt (om (λkk (a:Int) i=>DE FU v q (Bh FU k) kk a i) v (λ_ _=>True) (λkk i a h1 h2 _ h3=>?_) (λkk i a h=>?_) FU 0 0 (by unfold FU;omega) trivial) λ_ _=>be _
  ·have h4:=rK h2;have h5:=qg (gi v (i:Int));show Tt (DE FU v q (Bh FU k) (kk+1) a (i:Int));rw[DE,bQ (i:=i) (by omega)];exact cx (cw (λ_=>iA h1 (cx (bt (ih _ _ (by omega) (by omega)) λ_ _=>h3 _ trivial))) λ_=>be _)
  ·show Tt (DE FU v q (Bh FU k) (kk+1) a (i:Int));rw[DE,mB h];exact⟨_,rfl⟩
theorem akk:∀(k:Nat)(v:List aq),cG v<k→cG v≤1048576→Tt (Bi FU k v):=by
 intro k
 induction k with
 |zero=>intro v h;omega
 |succ k ih=>
  intro v hk hb;have hl:=rL v;rw[Bi];refine bt (om (λkk (a:Int) i=>DF FU v (Bi FU k) kk a i) v (λ_ _=>True) (λkk i a h1 h2 _ h3=>?_) (λkk i a h=>?_) FU 0 0 (by unfold FU;omega) trivial) λ_ _=>be _
  ·have h4:=rK h2;have h5:=qg (gi v (i:Int));show Tt (DF FU v (Bi FU k) (kk+1) a (i:Int));rw[DF,bQ (i:=i) (by omega)];exact jE h1 (bt (iA h1 (cx (cw (λ_=>bt (ih _ (by omega) (by omega)) λ_ _=>cx (be _)) λ_=>be _))) λ_ _=>h3 _ trivial)
  ·show Tt (DF FU v (Bi FU k) (kk+1) a (i:Int));rw[DF];exact jF h
theorem a5T(l:List cR)(hb:rI l≤1048576):Tt (JB FU l):=by
 have hl:=nD l;unfold JB;refine cw (λ_=>be _) λ_=>bt (om (λkk (a:Int) i=>DG FU l kk a i) l (λ_ _=>True) (λkk i a h1 h2 _ h3=>?_) (λkk i a h=>?_) FU 0 0 (by unfold FU;omega) trivial) λ_ _=>jR λ_ _=>be _
 ·have h4:=mD h2;have h5:=Br (gi l (i:Int));show Tt (DG FU l (kk+1) a (i:Int));rw[DG,bQ (i:=i) (by omega)];exact jE h1 (iA h1 (bt (akj FU _ _ (by unfold FU;omega) (by omega)) λ_ _=>cx (bt (cw (λ_=>be _) λ_=>akk FU _ (by unfold FU;omega) (by omega)) λ_ _=>cx (cw (λ_=>be _) λ_=>h3 _ trivial))))
 ·show Tt (DG FU l (kk+1) a (i:Int));rw[DG];exact jF h
theorem akl:∀(k:Nat)(c:bq)(q:Int),zC c<k→zC c≤1048576→Tt (Bj FU k c q):=by
 intro k
 induction k with
 |zero=>intro c q h;omega
 |succ k ih=>
  intro c q hk hb;have hz:=ug c;have hl:=nC c.aa;rw[Bj];refine bt (om (λkk (a:Int) i=>DH FU c q (Bj FU k) kk a i) c.aa (λ_ _=>True) (λkk i a h1 h2 _ h3=>?_) (λkk i a h=>?_) FU 0 1 (by unfold FU;omega) trivial) λ_ _=>be _
  ·have h4:=mC h2;show Tt (DH FU c q (Bj FU k) (kk+1) a (i:Int));rw[DH,bQ (i:=i) (by omega)];exact cx (cw (λ_=>iA h1 (bt (ih _ _ (by omega) (by omega)) λ_ _=>h3 _ trivial)) λ_=>be _)
  ·show Tt (DH FU c q (Bj FU k) (kk+1) a (i:Int));rw[DH,mB h];exact⟨_,rfl⟩
theorem akm:∀(k:Nat)(c:bq),zC c<k→zC c≤1048576→Tt (Gk FU k c):=by
 intro k
 induction k with
 |zero=>intro c h;omega
 |succ k ih=>
  intro c hk hb;have hz:=ug c;have hl:=nC c.aa;rw[Gk];refine bt (a5T _ (by rw[rI,rI];omega)) λ_ _=>cx (cw (λ_=>be _) λ_=>bt (t0 (JC FU c (Gk FU k)) c.aa (λkk i h1 h2 h3=>?_) (λkk i h=>?_) (by unfold FU;omega)) λ_ _=>jR λ_ _=>be _)
  ·have h4:=mC h2;rw[JC,bQ (i:=i) (by omega)];exact jE h1 (iA h1 (bt (ih _ (by omega) (by omega)) λ_ _=>cw (λ_=>be _) λ_=>h3))
  ·rw[JC];exact jF h
theorem akn:∀(k:Nat)(l:List bp)(q:Int),dZ l<k→dZ l≤1048576→Tt (Gl FU k l q):=by
 intro k
 induction k with
 |zero=>intro l q h;omega
 |succ k ih=>
  intro l q hk hb;have hl:=nR l;rw[Gl];refine cx (cw (λ_=>be _) λ_=>bt (t0 (JE FU l q (Gl FU k)) l (λkk i h1 h2 h3=>?_) (λkk i h=>?_) (by unfold FU;omega)) λ_ _=>jR λ_ _=>be _)
  ·have h4:=mR h2;have h5:=JX (gi l (i:Int));have l2:=nN (gi l (i:Int)).bK;rw[JE,bQ (i:=i) (by omega)];refine jE h1 (bt (iA h1 (bt ?_ λ_ _=>bt (cw (λ_=>be _) λ_=>a5T _ (by omega)) λ_ _=>bt (cw (λ_=>be _) λ_=>?_) λ_ _=>cx (bt (cw (λ_=>be _) λ_=>ih _ _ (by omega) (by omega)) λ_ _=>cw (λ_=>be _) λ_=>t0 (JD FU l (i:Int)) (gi l (i:Int)).bK (λkk j e1 e2 e3=>?_) (λkk j h=>?_) (by unfold FU;omega)))) λ_ _=>jR λ_ _=>h3)
   ·unfold RW;exact bt (aki FU _ _ (by unfold FU;omega) (by omega)) λ_ _=>be _
   ·unfold RX;exact bt (akl FU _ _ (by unfold FU;omega) (by omega)) λ_ _=>bt (cw (λ_=>be _) λ_=>akm FU _ (by unfold FU;omega) (by omega)) λ_ _=>be _
   ·rw[JD,bQ (i:=j) (by omega)];exact jE e1 (iA e1 (cx (cw (λ_=>be _) λ_=>e3)))
   ·rw[JD];exact jF h
  ·rw[JE];exact jF h
theorem ako(l:List fJ)(hb:iP l≤1048576):Tt (JF FU l):=by
 have hl:=nO l;unfold JF;refine bt (om (λkk (a:Int) i=>DK FU l kk a i) l (λ_ _=>True) (λkk i a h1 h2 _ h3=>?_) (λkk i a h=>?_) FU 0 0 (by unfold FU;omega) trivial) λ_ _=>jR λ_ _=>cx (be _)
 ·have h4:=mO h2;rw[a5R]at h4;show Tt (DK FU l (kk+1) a (i:Int));rw[DK,bQ (i:=i) (by omega)];unfold RY;exact cx (cw (λ_=>iA h1 (bt (bt (akn FU _ _ (by unfold FU;omega) (by omega)) λ_ _=>bt (cw (λ_=>be _) λ_=>a5S FU _ (by unfold FU;omega) (by omega)) λ_ _=>be _) λ_ _=>cw (λ_=>be _) λ_=>bt (a5S FU _ (by unfold FU;omega) (by omega)) λ_ _=>h3 _ trivial)) λ_=>be _)
 ·show Tt (DK FU l (kk+1) a (i:Int));rw[DK,mB h];exact⟨_,rfl⟩
abbrev HL:=List bS
def hx(l:HL)(i:Nat):bS:=l.getD i default
theorem Bt{l:HL}{i:Nat}(h:i<l.length):hx l i=l[i]:=by simp[hx,List.getD_eq_getElem?_getD,h]
theorem qX(l:HL)(i:Nat):gi l (i:Int)=hx l i:=rfl
theorem O5(l:HL)(i:Nat)(x:bS):cj l (i:Int) x=l.set i x:=rfl
theorem Zx{l:HL}{i:Nat}(h:i<l.length):hx l i∈l:=by rw[Bt h];exact List.getElem_mem h
theorem O6{l l':HL}(h:l'.length=l.length)(hg:∀k,k<l.length→hx l' k=hx l k):l'=l:=by
 apply List.ext_getElem h;intro i h1 h2;have:=hg i h2;rwa [Bt h1,Bt h2]at this
theorem K0(l:HL)(a k:Nat):hx (l.drop a) k=hx l (a+k):=by simp[hx,List.getD_eq_getElem?_getD,List.getElem?_drop]
theorem K1(l:HL)(b k:Nat)(h:k<b):hx (l.take b) k=hx l k:=by simp[hx,List.getD_eq_getElem?_getD,h]
abbrev hk(l:HL)(i:Nat):Int:=(hx l i).dJ
abbrev Kb(l:HL):Prop:=∀x∈l,0≤x.dJ∧x.dJ<1048576
abbrev uj(c:Int)(l:HL):HL:=l.filter λx=>x.dJ==c
theorem Kb.at{l:HL}(h:Kb l){i:Nat}(hi:i<l.length):0≤hk l i∧hk l i<1048576:=h _ (Zx hi)
structure eV(a b:Nat)(l l':HL):Prop where
 len:l'.length=l.length
 out:∀k,k<a∨b≤k→hx l' k=hx l k
 src:∀c,uj c l'=uj c l
theorem eV.id{a b:Nat}(l:HL):eV a b l l:=⟨rfl,λ_ _=>rfl,λ_=>rfl⟩
theorem eV.tr{a b:Nat}{l l1 l2:HL}(h:eV a b l l1)(h':eV a b l1 l2):eV a b l l2:=⟨h'.len.trans h.len,λk hk=>(h'.out k hk).trans (h.out k hk),λc=>(h'.src c).trans (h.src c)⟩
theorem eV.up{a b a' b':Nat}{l l':HL}(h:eV a b l l')(ha:a'≤a)(hb:b≤b'):eV a' b' l l':=⟨h.len,λk hk=>h.out k (by omega),h.src⟩
theorem eV.mem{a b:Nat}{l l':HL}(h:eV a b l l'){x:bS}(hx:x∈l'):x∈l:=by
 have:x∈uj x.dJ l':=List.mem_filter.2 ⟨hx,beq_self_eq_true _⟩;rw[h.src]at this;exact(List.mem_filter.1 this).1
theorem eV.kb{a b:Nat}{l l':HL}(h:eV a b l l')(hl:Kb l):Kb l':=λx hx=>hl x (h.mem hx)
theorem Ss(l:HL){a b:Nat}(lW:a≤b):l=l.take a++((l.take b).drop a++l.drop b):=by
 have h1:l.take b=l.take a++(l.take b).drop a:=by
  have:=List.take_append_drop a (l.take b);rw[List.take_take,Nat.min_eq_left lW]at this;exact this.symm
 rw[←tA,←h1,List.take_append_drop]
theorem eV.seg{a b:Nat}{l l':HL}(h:eV a b l l')(lW:a≤b)(c:Int):uj c ((l'.take b).drop a)=uj c ((l.take b).drop a):=by
 have h1:l'.take a=l.take a:=O6 (by simp[h.len]) (λk hk=>by
  have:k<a:=by simp at hk;omega
  rw[K1 _ _ _ this,K1 _ _ _ this];exact h.out k (.inl this))
 have h2:l'.drop b=l.drop b:=O6 (by simp[h.len]) (λk hk=>by rw[K0,K0];exact h.out _ (.inr (by omega)));have hs:=h.src c;rw[Ss l' lW,Ss l lW,h1,h2,uj,uj,List.filter_append,List.filter_append,List.filter_append,List.filter_append]at hs;exact List.append_cancel_right (List.append_cancel_left hs)
theorem eV.was{a b:Nat}{l l':HL}(h:eV a b l l')(hb:b≤l.length){k:Nat}(h1:a≤k)(h2:k<b):∃q,a≤q∧q<b∧hx l' k=hx l q:=by
 have hl:((l'.take b).drop a).length=b-a:=by simp[h.len];omega
 have hl2:((l.take b).drop a).length=b-a:=by simp;omega
 have hm:hx l' k∈(l'.take b).drop a:=by
  have:=Zx (l:=(l'.take b).drop a) (i:=k-a) (by omega);rwa [K0,K1 _ _ _ (by omega),show a+(k-a)=k by omega]at this
 have us:hx l' k∈uj (hx l' k).dJ ((l'.take b).drop a):=List.mem_filter.2 ⟨hm,beq_self_eq_true _⟩;rw[h.seg (by omega)]at us;obtain⟨q,hq,e⟩:=List.getElem_of_mem (List.mem_filter.1 us).1;refine⟨a+q,by omega,by omega,?_⟩;rw[←e,←Bt hq,K0,K1 _ _ _ (by omega)]
def hs(l:HL)(i j:Nat):HL:=(l.set i (hx l j)).set j (hx l i)
theorem K3(l:HL)(i j:Nat):(hs l i j).length=l.length:=by simp[hs]
theorem DR{l:HL}{i j:Nat}(hi:i<l.length)(hj:j<l.length)(k:Nat):hx (hs l i j) k=if k=j then hx l i else if k=i then hx l j else hx l k:=by
 simp only[hx,hs,List.getD_eq_getElem?_getD,List.getElem?_set,List.length_set];by_cases h1:j=k
 ·subst h1;simp[hj]
 ·by_cases h2:i=k
  ·subst h2;simp[hi,h1,Ne.symm h1]
  ·simp[h1,h2,Ne.symm h1,Ne.symm h2]
theorem akp{l:HL}{i:Nat}(h:i+1<l.length):l=l.take i++(hx l i::hx l (i+1)::l.drop (i+2)):=by
 rw[Bt (by omega),Bt h,←ov h,←ov (by omega),List.take_append_drop]
theorem Zy{a b i j:Nat}{l:HL}(dP:i+1=j∨j+1=i)(hi:i<l.length)(hj:j<l.length)(h1:a≤i)(h2:i<b)(h3:a≤j)(h4:j<b)(hn:hk l i≠hk l j):eV a b l (hs l i j):=by
 refine⟨K3 ..,λk hk=>by rw[DR hi hj,if_neg (by omega),if_neg (by omega)],λc=>?_⟩;have key:∀p q:Nat,p+1=q→q<l.length→hk l p≠hk l q→uj c (hs l p q)=uj c l:=by
  intro p q e hq hQ;subst e;have e1:hs l p (p+1)=l.take p++(hx l (p+1)::hx l p::l.drop (p+2)):=by
   apply O6 (l:=l.take p++(hx l (p+1)::hx l p::l.drop (p+2)))
   ·simp[hs];omega
   ·intro k hk;rw[DR (by omega) hq];simp only[hx,List.getD_eq_getElem?_getD];rcases Nat.lt_trichotomy k p with g|g|g
    ·rw[List.getElem?_append_left (by simp;omega),if_neg (by omega),if_neg (by omega),List.getElem?_take_of_lt g]
    ·subst g;rw[List.getElem?_append_right (by simp;omega),if_neg (by omega),if_pos rfl];simp[Nat.min_eq_left (show k≤l.length by omega)]
    ·rw[List.getElem?_append_right (by simp;omega)];by_cases g':k=p+1
     ·subst g';rw[if_pos rfl];simp[Nat.min_eq_left (show p≤l.length by omega)]
     ·rw[if_neg g',if_neg (by omega)];obtain⟨d,rfl⟩:∃d,k=p+2+d:=⟨k-(p+2),by omega⟩;have:p+2+d-(l.take p).length=d+2:=by simp;omega
      rw[this];simp
  conv=>rhs;rw[akp hq]
  rw[e1,uj,uj,List.filter_append,List.filter_append];congr 1;simp only[List.filter_cons];by_cases c1:(hx l p).dJ==c
  ·by_cases c2:(hx l (p+1)).dJ==c
   ·exact absurd ((eq_of_beq c1).trans (eq_of_beq c2).symm) hQ
   ·simp[c1,c2]
  ·by_cases c2:(hx l (p+1)).dJ==c<;>simp[c1,c2]
 rcases dP with h|h
 ·exact key i j h hj hn
 ·have:hs l i j=hs l j i:=O6 (by rw[K3,K3]) (λk _=>by
   rw[DR hi hj,DR hj hi];by_cases g1:k=j
   ·rw[if_pos g1,if_neg (by omega),if_pos g1]
   ·by_cases g2:k=i
    ·rw[if_neg g1,if_pos g2,if_pos g2]
    ·rw[if_neg g1,if_neg g2,if_neg g2,if_neg g1])
  rw[this];exact key j i h hi (Ne.symm hn)
abbrev Sg(a b:Nat)(l:HL):Prop:=∀p q,a≤p→p<q→q<b→hk l p≤hk l q
theorem St{l:HL}(h:Kb l){i j:Nat}(hi:i<l.length)(hj:j<l.length):decide (Ba (hx l i) (hx l j)<0)=decide (hk l i<hk l j):=by
 have h1:=h.at hi;have h2:=h.at hj;rw[Ba];unfold hk at*;rw[na (by omega) (by omega)];by_cases g:(hx l i).dJ<(hx l j).dJ
 ·rw[kq g,kq (by omega)]
 ·rw[eK g,eK (by omega)]
def a5U(a j i:Nat)(l:HL):Prop:=∀p q,a≤p→p<q→q≤i→q≠j→hk l p≤hk l q
theorem akq(m a i:Nat):∀(j kk:Nat)(l:HL),j-a<kk→a≤j→j≤i→i<l.length→l.length<4000000000→Kb l→a5U a j i l→
   ∃l',Ga m (a:Int) kk l (j:Int)=some l'∧eV a (i+1) l l'∧Sg a (i+1) l':=by
 intro j
 induction j with
 |zero=>
  intro kk l hk ha hj hi hl hA h;obtain⟨kk,rfl⟩:=sK ‹_<kk›;have hd:decide ((a:Int)<((0:Nat):Int))=false:=eK (by omega);rw[Ga,hJ (λh=>by rw[hd]at h;cases h),hJ (λh=>by rw[hd]at h;cases h)];simp only[hd,bh,lt_eq];exact⟨l,rfl,eV.id _,λp q h1 h2 h3=>h p q h1 h2 (by omega) (by omega)⟩
 |succ j ih=>
  intro kk l uf ha hj hi hl hA h;obtain⟨kk,rfl⟩:=sK ‹_<kk›;rw[Ga];by_cases hd:a<j+1
  ·have l9:decide ((a:Int)<((j+1:Nat):Int))=true:=kq (by omega);have hw:J (((j+1:Nat):Int)-1)=(j:Int):=by rw[lE (by omega) (by omega)];rfl
   rw[hJ (λ_=>by unfold ln;omega),hJ (λ_=>by rw[hw];unfold ln;omega),l9,hw,qX,qX,lt_eq,bB,lt_eq,St hA (by omega) (by omega)];cases kL:decide (hk l (j+1)<hk l j)
   ·have akr:=of_decide_eq_false kL;rw[bh];refine⟨l,rfl,eV.id _,λp q h1 h2 h3=>?_⟩;by_cases hq:q=j+1
    ·subst hq;by_cases hp:p=j
     ·subst hp;omega
     ·have:=h p j h1 (by omega) (by omega) (by omega);omega
    ·exact h p q h1 h2 (by omega) hq
   ·have akr:=uD kL;rw[bB,cd (by unfold ln;omega),cd (by unfold ln;omega),lt_eq,cd (by unfold ln;rw[O5,List.length_set];omega),lt_eq];have e:cj (cj l ((j+1:Nat):Int) (hx l j)) (j:Int) (hx l (j+1))=hs l (j+1) j:=rfl;rw[e];have kK:eV a (i+1) l (hs l (j+1) j):=Zy (.inr rfl) (by omega) (by omega) (by omega) (by omega) (by omega) (by omega) (by omega);have hI:a5U a j i (hs l (j+1) j):=by
     intro p q g1 g2 g3 g4;have hh:=λp q=>h p q;simp only[hk,DR (l:=l) (i:=j+1) (j:=j) (by omega) (by omega)]at*;by_cases q1:q=j+1
     ·subst q1;rw[if_neg (by omega:¬j+1=j),if_pos rfl];by_cases p1:p=j
      ·rw[if_pos p1];omega
      ·rw[if_neg p1,if_neg (by omega)];exact hh p j g1 (by omega) (by omega) (by omega)
     ·rw[if_neg g4,if_neg q1];by_cases p1:p=j
      ·rw[if_pos p1];exact hh (j+1) q (by omega) (by omega) g3 q1
      ·rw[if_neg p1];by_cases p2:p=j+1
       ·rw[if_pos p2];exact hh j q (by omega) (by omega) g3 q1
       ·rw[if_neg p2];exact hh p q g1 g2 g3 q1
    obtain⟨l',e,h1,h2⟩:=ih kk (hs l (j+1) j) (by omega) (by omega) (by omega) (by rw[K3];omega) (by rw[K3];exact hl) (kK.kb hA) hI;exact⟨l',e,kK.tr h1,h2⟩
  ·have l9:decide ((a:Int)<((j+1:Nat):Int))=false:=eK (by omega);rw[hJ (λh=>by rw[l9]at h;cases h),hJ (λh=>by rw[l9]at h;cases h)];simp only[l9,bh,lt_eq];exact⟨l,rfl,eV.id _,λp q h1 h2 h3=>h p q h1 h2 (by omega) (by omega)⟩
theorem aks(m a b:Nat):∀(n i kk:Nat)(l:HL),i+n=b→n<kk→a≤i→b≤l.length→l.length<4000000000→l.length<m→Kb l→Sg a i l→
   ∃l',Dl m (a:Int) (b:Int) kk l (i:Int)=some l'∧eV a b l l'∧Sg a b l':=by
 intro n
 induction n with
 |zero=>
  intro i kk l hi hk ha hb hl hm hA hs;obtain⟨kk,rfl⟩:=sK ‹_<kk›;rw[Dl,dF (by omega)];exact⟨l,rfl,eV.id _,by rw[show b=i by omega];exact hs⟩
 |succ n ih=>
  intro i kk l hi hk ha hb hl hm hA hs;obtain⟨kk,rfl⟩:=sK ‹_<kk›;obtain⟨l1,e1,s1,g1⟩:=akq m a i i m l (by omega) ha (du _) (by omega) hl hA (λp q h1 h2 h3 h4=>hs p q h1 h2 (by omega));obtain⟨l2,e2,s2,g2⟩:=ih (i+1) kk l1 (by omega) (by omega) (by omega) (by rw[s1.len];exact hb) (by rw[s1.len];exact hl) (by rw[s1.len];exact hm) (s1.kb hA) g1;rw[Dl,dT (by omega),e1,aN,bQ (by omega)];exact⟨l2,e2,(s1.up (du _) (by omega)).tr s2,g2⟩
theorem a5V(m a b:Nat)(l:HL)(ha:a≤b)(hb:b≤l.length)(hl:l.length<4000000000)(hm:l.length+1<m)(hA:Kb l):
   ∃l',Gb m l (a:Int) (b:Int)=some l'∧eV a b l l'∧Sg a b l':=by
 rw[Gb,bQ (by omega)];by_cases h:a+1≤b
 ·exact aks m a b (b-(a+1)) (a+1) m l (by omega) (by omega) (by omega) hb hl (by omega) hA (λp q h1 h2 h3=>by omega)
 ·obtain⟨k,rfl⟩:∃q,m=q+1:=⟨m-1,by omega⟩;rw[Dl,dF (by omega)];exact⟨l,rfl,eV.id _,λp q h1 h2 h3=>by omega⟩
theorem akt(m a b n:Nat)(l:HL)(lW:a+n≤b)(hb:b+n≤l.length)(hl:l.length<4000000000):∀(d i kk:Nat)(c:HL),i+d=n→d<kk→c.length=l.length→
   (∀k,hx c k=if a≤k∧k<a+i then hx l (k-a+b)else if b≤k∧k<b+i then hx l (k-b+a)else hx l k)→
   ∃c',Gd m (a:Int) (b:Int) (n:Int) kk c (i:Int)=some c'∧c'.length=l.length∧∀k,hx c' k=if a≤k∧k<a+n then hx l (k-a+b)else if b≤k∧k<b+n then hx l (k-b+a)else hx l k:=by
 intro d
 induction d with
 |zero=>
  intro i kk c hi hk hc h;obtain⟨kk,rfl⟩:=sK ‹_<kk›;rw[Gd,dF (by omega)];exact⟨c,rfl,hc,by rw[show n=i by omega];exact h⟩
 |succ d ih=>
  intro i kk c hi hk hc h;obtain⟨kk,rfl⟩:=sK ‹_<kk›;rw[Gd,dT (by omega),pP (by omega),pP (by omega),cd (by unfold ln;omega),cd (by unfold ln;omega),lt_eq,qX,qX,cd (by unfold ln;rw[O5,List.length_set];omega),lt_eq,bQ (by omega)];have e:cj (cj c ((a+i:Nat):Int) (hx c (b+i))) ((b+i:Nat):Int) (hx c (a+i))=hs c (a+i) (b+i):=rfl;rw[e];refine ih (i+1) kk _ (by omega) (by omega) (by rw[K3];exact hc) λk=>?_;rw[DR (by omega) (by omega)];by_cases k1:k=b+i
  ·rw[if_pos k1,h,if_neg (by omega),if_neg (by omega),if_neg (by omega),if_pos (by omega)];exact congrArg (hx l) (by omega)
  ·rw[if_neg k1];by_cases k2:k=a+i
   ·rw[if_pos k2,h,if_neg (by omega),if_neg (by omega),if_pos (by omega)];exact congrArg (hx l) (by omega)
   ·rw[if_neg k2,h];by_cases c1:a≤k∧k<a+i
    ·rw[if_pos c1,if_pos (by omega)]
    ·rw[if_neg c1,if_neg (by omega:¬(a≤k∧k<a+(i+1)))];by_cases c2:b≤k∧k<b+i
     ·rw[if_pos c2,if_pos (by omega)]
     ·rw[if_neg c2,if_neg (by omega)]
theorem Zz(m a b n:Nat)(l:HL)(lW:a+n≤b)(hb:b+n≤l.length)(hl:l.length<4000000000)(hm:l.length<m):
   ∃c',Jv m l (a:Int) (b:Int) (n:Int)=some c'∧c'.length=l.length∧∀k,hx c' k=if a≤k∧k<a+n then hx l (k-a+b)else if b≤k∧k<b+n then hx l (k-b+a)else hx l k:=
 akt m a b n l lW hb hl n 0 m l (by omega) (by omega) rfl (λk=>by rw[if_neg (by omega),if_neg (by omega)])
def pQ(c:Nat→bS)(lo m h:Nat)(k:Nat):bS:=if lo≤k∧k<lo+(h-m)then c (k+(m-lo))else if lo+(h-m)≤k∧k<h then c (k-(h-m))else c k
theorem aku(m:Nat)(l:HL)(T:Nat→bS)(mm:Nat)(hl:l.length<4000000000)(hm:l.length<m):∀(kk i j:Nat)(c:HL),i+j<kk→0<i→0<j→i≤mm→mm+j≤l.length→c.length=l.length→(∀k,T k=pQ (hx c) (mm-i) mm (mm+j) k)→
   ∃(i':Nat)(c':HL),Ge m (mm:Int) kk c (i:Int) (j:Int)=some ((i':Int),c')∧0<i'∧i'≤mm∧mm+i'≤l.length∧c'.length=l.length∧∀k,T k=pQ (hx c') (mm-i') mm (mm+i') k:=by
 intro kk
 induction kk with
 |zero=>intro i j c h;omega
 |succ kk ih=>
  intro i j c hk hi hj him OO hc h;rw[Ge];by_cases e:i=j
  ·subst e;rw[bne_self_eq_false,bh];exact⟨i,c,rfl,hi,him,OO,hc,h⟩
  ·rw[show((i:Int) !=(j:Int))=true from bne_iff_ne.2 (by omega),bB];by_cases Hm:j<i
   ·obtain⟨c',ec,lc,oZ⟩:=Zz m (mm-i) mm j c (by omega) (by omega) (by omega) (by omega);rw[dT (by omega),n5 (by omega) (by omega),ec,aN,n5 (by omega) (by omega)];refine ih (i-j) j c' (by omega) (by omega) hj (by omega) OO (by rw[lc,hc]) λk=>?_;rw[h,pQ,pQ];by_cases k1:mm-i≤k∧k<mm-i+(mm+j-mm)
    ·rw[if_pos k1,if_neg (by omega),if_neg (by omega),oZ,if_pos (by omega)];exact congrArg (hx c) (by omega)
    ·rw[if_neg k1];by_cases k2:mm-i+(mm+j-mm)≤k∧k<mm+j
     ·rw[if_pos k2];by_cases k3:mm-(i-j)≤k∧k<mm-(i-j)+(mm+j-mm)
      ·rw[if_pos k3,oZ,if_neg (by omega),if_pos (by omega)];exact congrArg (hx c) (by omega)
      ·rw[if_neg k3,if_pos (by omega),oZ,if_neg (by omega),if_neg (by omega)]
     ·rw[if_neg k2,if_neg (by omega),if_neg (by omega),oZ,if_neg (by omega),if_neg (by omega)]
   ·obtain⟨c',ec,lc,oZ⟩:=Zz m (mm-i) (mm+j-i) i c (by omega) (by omega) (by omega) (by omega);rw[dF (by omega),n5 (by omega) (by omega),pP (by omega),n5 (by omega) (by omega),ec,aN,n5 (by omega) (by omega)];refine ih i (j-i) c' (by omega) hi (by omega) him (by omega) (by rw[lc,hc]) λk=>?_;rw[h,pQ,pQ];by_cases k1:mm-i≤k∧k<mm-i+(mm+j-mm)
    ·rw[if_pos k1];by_cases k3:mm-i≤k∧k<mm-i+(mm+(j-i)-mm)
     ·rw[if_pos k3,oZ,if_neg (by omega),if_neg (by omega)]
     ·rw[if_neg k3,if_pos (by omega),oZ,if_pos (by omega)];exact congrArg (hx c) (by omega)
    ·rw[if_neg k1];by_cases k2:mm-i+(mm+j-mm)≤k∧k<mm+j
     ·rw[if_pos k2,if_neg (by omega),if_neg (by omega),oZ,if_neg (by omega),if_pos (by omega)];exact congrArg (hx c) (by omega)
     ·rw[if_neg k2,if_neg (by omega),if_neg (by omega),oZ,if_neg (by omega),if_neg (by omega)]
theorem akv(m a mm b:Nat)(l:HL)(h1:a<mm)(h2:mm<b)(hb:b≤l.length)(hl:l.length<4000000000)(hm:l.length<m):
   ∃c',Jw m l (a:Int) (mm:Int) (b:Int)=some c'∧c'.length=l.length∧∀k,hx c' k=pQ (hx l) a mm b k:=by
 obtain⟨i,c,e,i1,i2,i3,lc,hc⟩:=aku m l (pQ (hx l) a mm b) mm hl hm m (mm-a) (b-mm) l (by omega) (by omega) (by omega) (by omega) (by omega) rfl (λk=>by rw[show mm-(mm-a)=a by omega,show mm+(b-mm)=b by omega]);obtain⟨c',ec,lc',oZ⟩:=Zz m (mm-i) mm i c (by omega) (by omega) (by omega) (by omega);refine⟨c',?_,by rw[lc',lc],λk=>?_⟩
 ·rw[Jw,n5 (by omega) (by omega),n5 (by omega) (by omega),e,aN];dsimp only;rw[n5 (by omega) (by omega),ec,aN]
 ·rw[hc,oZ,pQ];by_cases k1:mm-i≤k∧k<mm-i+i
  ·rw[if_pos k1,if_pos (by omega)];exact congrArg (hx c) (by omega)
  ·rw[if_neg k1];by_cases k2:mm≤k∧k<mm+i
   ·rw[if_pos k2,if_neg (by omega),if_pos (by omega)];exact congrArg (hx c) (by omega)
   ·rw[if_neg k2,if_neg (by omega),if_neg (by omega)]
theorem Su(i j:Nat)(h:i+j<4000000000000):Int.fdiv (cI (J ((i:Int)+(j:Int)))) (2^1)=(((i+j)/2:Nat):Int):=by
 rw[pP (by omega),Ab (by omega) (by omega),show((2:Int)^1)=2 from by decide,Int.fdiv_eq_ediv_of_nonneg _ (by omega)];omega
theorem bs(F:Nat→Nat→Nat→Option Int)(P:Nat→Bool)(s e:Nat)(hF:∀kk i j,s≤i→i<j→j≤e→F (kk+1) i j=cond (P ((i+j)/2)) (F kk ((i+j)/2+1) j) (F kk i ((i+j)/2)))(hE:∀kk i,F (kk+1) i i=some (i:Int)):
   ∀(kk i j:Nat),j-i<kk→s≤i→i≤j→j≤e→(i=s∨P (i-1)=true)→(j=e∨P j=false)→∃r:Nat,F kk i j=some (r:Int)∧i≤r∧r≤j∧(r=s∨P (r-1)=true)∧(r=e∨P r=false):=by
 intro kk
 induction kk with
 |zero=>intro i j h;omega
 |succ kk ih=>
  intro i j hk hi dP hj h1 h2;by_cases h:i<j
  ·rw[hF kk i j hi h hj];cases hp:P ((i+j)/2)
   ·obtain⟨r,e,a,b,c,d⟩:=ih i ((i+j)/2) (by omega) hi (by omega) (by omega) h1 (.inr hp);exact⟨r,e,a,by omega,c,d⟩
   ·obtain⟨r,e,a,b,c,d⟩:=ih ((i+j)/2+1) j (by omega) (by omega) (by omega) hj (.inr hp) h2;exact⟨r,e,by omega,b,c,d⟩
  ·rw[show j=i by omega,hE kk i];have:j=i:=by omega
   subst this;exact⟨j,rfl,du _,du _,h1,h2⟩
section
variable (m:Nat) {l:HL} (hl:l.length<1000000000) (hm:l.length<m) (hA:Kb l)
include hl
theorem akw(a b z:Nat)(rT:a<z)(Sj:z≤b)(hb:b≤l.length)(yy:∀k,a<k→k<z→hk l k<hk l a):∀(n k kk:Nat)(c:HL),k+n+1=z→n<kk→a≤k→eV a b l c→hk c k=hk l a→(∀p,a≤p→p<k→hk c p=hk l (p+1))→(∀p,k<p→hk c p=hk l p)→
   ∃c',Gf m (z:Int) kk c (k:Int)=some c'∧eV a b l c'∧hk c' (z-1)=hk l a∧(∀p,a≤p→p<z-1→hk c' p=hk l (p+1))∧(∀p,z-1<p→hk c' p=hk l p):=by
 intro n
 induction n with
 |zero=>
  intro k kk c ZA uf Sv kK c1 c2 c3;obtain⟨kk,rfl⟩:=sK ‹_<kk›;have e:z-1=k:=by omega
  rw[Gf,lE (by omega) (by omega),dF (by omega)];rw[e];exact⟨c,rfl,kK,c1,c2,c3⟩
 |succ n ih=>
  intro k kk c ZA uf Sv kK c1 c2 c3;obtain⟨kk,rfl⟩:=sK ‹_<kk›;have lc:=kK.len;rw[Gf,lE (by omega) (by omega),dT (by omega),bQ (by omega),cd (by unfold ln;omega),cd (by unfold ln;omega),lt_eq,qX,qX,cd (by unfold ln;rw[O5,List.length_set];omega),lt_eq];have e:cj (cj c (k:Int) (hx c (k+1))) ((k+1:Nat):Int) (hx c k)=hs c k (k+1):=rfl;rw[e];have hQ:hk c k≠hk c (k+1):=by rw[c1,c3 (k+1) (by omega)];have:=yy (k+1) (by omega) (by omega);omega
  have g:=DR (l:=c) (i:=k) (j:=k+1) (by omega) (by omega);refine ih (k+1) kk _ (by omega) (by omega) (by omega) (kK.tr (Zy (.inl rfl) (by omega) (by omega) Sv (by omega) (by omega) (by omega) hQ)) ?_ (λp h1 h2=>?_) (λp h1=>?_)
  ·rw[hk,g,if_pos rfl];exact c1
  ·rw[hk,g,if_neg (by omega)];by_cases h:p=k
   ·subst h;rw[if_pos rfl];exact c3 _ (by omega)
   ·rw[if_neg h];exact c2 p h1 (by omega)
  ·rw[hk,g,if_neg (by omega),if_neg (by omega)];exact c3 p (by omega)
theorem akx(a mm z:Nat)(rT:a≤z)(Sj:z≤mm)(hb:mm<l.length)(yy:∀k,z≤k→k<mm→hk l mm<hk l k):∀(n k kk:Nat)(c:HL),z+n=k→n<kk→k≤mm→eV a (mm+1) l c→hk c k=hk l mm→(∀p,k<p→p≤mm→hk c p=hk l (p-1))→(∀p,p<k→hk c p=hk l p)→
   ∃c',Gg m (z:Int) kk c (k:Int)=some c'∧eV a (mm+1) l c'∧hk c' z=hk l mm∧(∀p,z<p→p≤mm→hk c' p=hk l (p-1))∧(∀p,p<z→hk c' p=hk l p):=by
 intro n
 induction n with
 |zero=>
  intro k kk c ZA uf Sv kK c1 c2 c3;obtain⟨kk,rfl⟩:=sK ‹_<kk›;have e:k=z:=by omega
  subst e;rw[Gg,dF (by omega)];exact⟨c,rfl,kK,c1,c2,c3⟩
 |succ n ih=>
  intro k kk c ZA uf Sv kK c1 c2 c3;obtain⟨kk,rfl⟩:=sK ‹_<kk›;obtain⟨j,rfl⟩:∃q,k=q+1:=⟨k-1,by omega⟩;have lc:=kK.len;have hw:J (((j+1:Nat):Int)-1)=(j:Int):=by rw[lE (by omega) (by omega)];rfl
  rw[Gg,dT (by omega),hw,cd (by unfold ln;omega),cd (by unfold ln;omega),lt_eq,qX,qX,cd (by unfold ln;rw[O5,List.length_set];omega),lt_eq];have e:cj (cj c ((j+1:Nat):Int) (hx c j)) (j:Int) (hx c (j+1))=hs c (j+1) j:=rfl;rw[e];have hQ:hk c (j+1)≠hk c j:=by rw[c1,c3 j (by omega)];have:=yy j (by omega) (by omega);omega
  have g:=DR (l:=c) (i:=j+1) (j:=j) (by omega) (by omega);refine ih j kk _ (by omega) (by omega) (by omega) (kK.tr (Zy (.inr rfl) (by omega) (by omega) (by omega) (by omega) (by omega) (by omega) hQ)) ?_ (λp h1 h2=>?_) (λp h1=>?_)
  ·rw[hk,g,if_pos rfl];exact c1
  ·rw[hk,g,if_neg (by omega)];by_cases h:p=j+1
   ·subst h;rw[if_pos rfl];exact c3 _ (by omega)
   ·rw[if_neg h];exact c2 p (by omega) h2
  ·rw[hk,g,if_neg (by omega),if_neg (by omega)];exact c3 p (by omega)
include hm hA
theorem aky(a e s:Nat)(ha:a<l.length)(he:e≤l.length)(hs:s≤e):∃r:Nat,Bb m l (a:Int) m (s:Int) (e:Int)=some (r:Int)∧s≤r∧r≤e∧(r=s∨hk l (r-1)<hk l a)∧(r=e∨hk l a≤hk l r):=by
 obtain⟨r,e1,a1,b1,c1,d1⟩:=bs (λkk i j=>Bb m l (a:Int) kk (i:Int) (j:Int)) (λh=>decide (hk l h<hk l a)) s e (λkk i j h1 h2 h3=>by
   rw[Bb,dT (by omega),Su i j (by omega),GF (by omega),lt_eq,cd (by unfold ln;omega),cd (by unfold ln;omega),qX,qX,lt_eq,St hA (by omega) ha,bQ (by omega)]) (λkk i=>by
   rw[Bb,dF (by omega)]) m s e (by omega) (du _) hs (du _) (.inl rfl) (.inl rfl)
 exact⟨r,e1,a1,b1,c1.imp_right uD,d1.imp_right λh=>by have:=of_decide_eq_false h;omega⟩
theorem akz(mm s e:Nat)(ha:mm<l.length)(he:e≤l.length)(hs:s≤e):∃r:Nat,Bc m l (mm:Int) m (s:Int) (e:Int)=some (r:Int)∧s≤r∧r≤e∧(r=s∨hk l (r-1)≤hk l mm)∧(r=e∨hk l mm<hk l r):=by
 obtain⟨r,e1,a1,b1,c1,d1⟩:=bs (λkk i j=>Bc m l (mm:Int) kk (i:Int) (j:Int)) (λh=>!(decide (hk l mm<hk l h))) s e (λkk i j h1 h2 h3=>by
   rw[Bc,dT (by omega),Su i j (by omega),lt_eq,GF (by omega),cd (by unfold ln;omega),cd (by unfold ln;omega),qX,qX,lt_eq,St hA ha (by omega),bQ (by omega)]) (λkk i=>by
   rw[Bc,dF (by omega)]) m s e (by omega) (du _) hs (du _) (.inl rfl) (.inl rfl)
 refine⟨r,e1,a1,b1,c1.imp_right λh=>?_,d1.imp_right λh=>?_⟩
 ·have h':(!decide (hk l mm<hk l (r-1)))=true:=h;rw[Bool.not_eq_true']at h';have:=of_decide_eq_false h';omega
 ·have h':(!decide (hk l mm<hk l r))=false:=h;rw[Bool.not_eq_false']at h';exact uD h'
theorem a5W(mm x s e n:Nat)(hn:x+mm=n)(he:e≤l.length)(hs:s≤e)(hr:∀c,s≤c→c<e→c<n∧n-1-c<l.length):∃r:Nat,yw m l (mm:Int) (x:Int) m (s:Int) (e:Int)=some (r:Int)∧s≤r∧r≤e∧(r=s∨hk l (r-1)≤hk l (n-r))∧(r=e∨hk l (n-1-r)<hk l r):=by
 by_cases hse:s<e
 ·have qn:=(hr s (du _) hse).1;have qo:=(hr s (du _) hse).2;obtain⟨r,e1,a1,b1,c1,d1⟩:=bs (λkk i j=>yw m l (mm:Int) (x:Int) kk (i:Int) (j:Int)) (λh=>!(decide (hk l (n-1-h)<hk l h))) s e (λkk i j h1 h2 h3=>by
    have hc:=hr ((i+j)/2) (by omega) (by omega);rw[yw,dT (by omega),Su i j (by omega),lt_eq,GF (by omega),pP (by omega),hn,lE (by omega) (by omega),n5 (by omega) (by omega),lt_eq,cd (by unfold ln;omega),cd (by unfold ln;omega),qX,qX,lt_eq,St hA hc.2 (by omega),bQ (by omega)]) (λkk i=>by
    rw[yw,dF (by omega)]) m s e (by omega) (du _) hs (du _) (.inl rfl) (.inl rfl)
  refine⟨r,e1,a1,b1,?_,d1.imp_right λh=>?_⟩
  ·by_cases hrs:r=s
   ·exact .inl hrs
   ·refine .inr ?_;have h':(!decide (hk l (n-1-(r-1))<hk l (r-1)))=true:=c1.resolve_left hrs;rw[Bool.not_eq_true',show n-1-(r-1)=n-r by omega]at h';have:=of_decide_eq_false h';omega
  ·have h':(!decide (hk l (n-1-r)<hk l r))=false:=h;rw[Bool.not_eq_false']at h';exact uD h'
 ·obtain⟨k,rfl⟩:∃k,m=k+1:=⟨m-1,by omega⟩;have:s=e:=by omega
  subst this;refine⟨s,?_,du _,du _,.inl rfl,.inl rfl⟩;rw[yw,dF (by omega)]
end
theorem akA{l l2:HL}{s mm e:Nat}(h1:s≤mm)(h2:mm≤e)(he:e≤l.length)(hlen:l2.length=l.length)(hh:∀k,hx l2 k=pQ (hx l) s mm e k)(hB:∀p q,s≤p→p<mm→mm≤q→q<e→hk l q<hk l p):eV s e l l2:=by
 refine⟨hlen,λk hk=>by rw[hh,pQ,if_neg (by omega),if_neg (by omega)],λc=>?_⟩;have e1:l=l.take s++(((l.take mm).drop s++(l.take e).drop mm)++l.drop e):=by
  have q1:=Ss l h1;have q2:l.drop mm=(l.take e).drop mm++l.drop e:=by
   have:=Ss l h2;have w:l.take mm++l.drop mm=l:=List.take_append_drop mm l
   conv at w=>rhs;rw[this]
   exact List.append_cancel_left w
  rw[q2,←tA ((l.take mm).drop s)]at q1;exact q1
 have e2:l2=l.take s++(((l.take e).drop mm++(l.take mm).drop s)++l.drop e):=by
  apply O6
  ·rw[hlen];simp;omega
  ·intro k hk;rw[hh,pQ];simp only[hx,List.getD_eq_getElem?_getD];by_cases k0:k<s
   ·rw[if_neg (by omega),if_neg (by omega),List.getElem?_append_left (by simp;omega),List.getElem?_take_of_lt k0]
   ·have ls:(l.take s).length=s:=by simp;omega
    rw[List.getElem?_append_right (by omega),ls];by_cases k1:k<s+(e-mm)
    ·rw[if_pos (by omega),List.getElem?_append_left (by simp;omega),List.getElem?_append_left (by simp;omega),List.getElem?_drop,List.getElem?_take_of_lt (by omega),show mm+(k-s)=k+(mm-s) by omega]
    ·rw[if_neg (by omega)];have ly:((l.take e).drop mm).length=e-mm:=by simp;omega
     have lx:((l.take mm).drop s).length=mm-s:=by simp;omega
     by_cases k2:k<e
     ·rw[if_pos (by omega),List.getElem?_append_left (by rw[fg,ly,lx];omega),List.getElem?_append_right (by omega),ly,List.getElem?_drop,List.getElem?_take_of_lt (by omega),show s+(k-s-(e-mm))=k-(e-mm) by omega]
     ·rw[if_neg (by omega),List.getElem?_append_right (by rw[fg,ly,lx];omega),fg,ly,lx,List.getElem?_drop,show e+(k-s-(e-mm+(mm-s)))=k by omega]
 conv=>rhs;rw[e1]
 rw[e2,uj,uj,List.filter_append,List.filter_append,List.filter_append,List.filter_append,List.filter_append,List.filter_append];congr 2;have mX:∀x∈(l.take mm).drop s,∃p,s≤p∧p<mm∧x=hx l p:=λx DS=>by
  obtain⟨q,hq,ex⟩:=List.getElem_of_mem DS;have lx:((l.take mm).drop s).length=mm-s:=by simp;omega
  exact⟨s+q,by omega,by omega,by rw[←ex,←Bt hq,K0,K1 _ _ _ (by omega)]⟩
 have mY:∀x∈(l.take e).drop mm,∃p,mm≤p∧p<e∧x=hx l p:=λx DS=>by
  obtain⟨q,hq,ex⟩:=List.getElem_of_mem DS;have ly:((l.take e).drop mm).length=e-mm:=by simp;omega
  exact⟨mm+q,by omega,by omega,by rw[←ex,←Bt hq,K0,K1 _ _ _ (by omega)]⟩
 cases hX:((l.take mm).drop s).filter (λx=>x.dJ==c)with
 |nil=>rw[List.nil_append,List.append_nil]
 |cons x r=>
  have hY:((l.take e).drop mm).filter (λx=>x.dJ==c)=[]:=by
   rw[List.filter_eq_nil_iff];intro y hy hc;have DS:=List.mem_filter.1 (show x∈((l.take mm).drop s).filter (λx=>x.dJ==c)from by rw[hX];exact List.mem_cons_self ..);obtain⟨p,p1,p2,p3⟩:=mX x DS.1;obtain⟨q,q1,q2,q3⟩:=mY y hy;have:=hB p q p1 p2 q1 q2;have c1:x.dJ=c:=eq_of_beq DS.2;have c2:y.dJ=c:=eq_of_beq hc;rw[p3]at c1;rw[q3]at c2;unfold hk at this;omega
  rw[hY,List.nil_append,List.append_nil]
theorem a5X(m:Nat):∀(k:Nat)(l:HL)(a mm b:Nat),b-a<k→a<mm→mm<b→b≤l.length→l.length<1000000000→l.length<m→Kb l→Sg a mm l→Sg mm b l→
   ∃l',Be m k l (a:Int) (mm:Int) (b:Int)=some l'∧eV a b l l'∧Sg a b l':=by
 intro k
 induction k with
 |zero=>intro l a mm b h;omega
 |succ k ih=>
  intro l a mm b uf h1 h2 hb hl hm hA s1 s2;rw[Be,n5 (by omega) (by omega),n5 (by omega) (by omega)];by_cases c1:mm-a=1
  ·have emm:mm=a+1:=by omega
   obtain⟨z,ez,z1,z2,z3,z4⟩:=aky m hl hm hA a b mm (by omega) hb (by omega);have less:∀q,a<q→q<z→hk l q<hk l a:=λq g1 g2=>by
    rcases z3 with g|g
    ·omega
    ·by_cases e:q=z-1
     ·rw[e];exact g
     ·have:=s2 q (z-1) (by omega) (by omega) (by omega);omega
   obtain⟨c,ec,st,O7,c2,c3⟩:=akw m hl a b z (by omega) z2 hb less (z-1-a) a m l (by omega) (by omega) (du _) (eV.id _) rfl (λp g1 g2=>by omega) (λ_ _=>rfl);rw[show(((mm-a:Nat):Int)==1)=true from beq_iff_eq.2 (by omega),bB,ez,aN,ec,aN];refine⟨c,rfl,st,λp q g1 g2 g3=>?_⟩;by_cases w:q<z-1
   ·rw[c2 p g1 (by omega),c2 q (by omega) w];exact s2 (p+1) (q+1) (by omega) (by omega) (by omega)
   ·by_cases w2:q=z-1
    ·rw[w2,O7,c2 p g1 (by omega)];have:=less (p+1) (by omega) (by omega);omega
    ·rw[c3 q (by omega)];by_cases w3:p<z-1
     ·rw[c2 p g1 w3];by_cases w4:p+1=q
      ·omega
      ·exact s2 (p+1) q (by omega) (by omega) g3
     ·by_cases w4:p=z-1
      ·rw[w4,O7];rcases z4 with g|g
       ·omega
       ·by_cases w5:q=z
        ·rw[w5];exact g
        ·have:=s2 z q (by omega) (by omega) g3;omega
      ·rw[c3 p (by omega)];exact s2 p q (by omega) g2 g3
  ·rw[show(((mm-a:Nat):Int)==1)=false from yO.2 (by omega),bh,aN];show∃l',Option.bind (cond (((b-mm:Nat):Int)==1) _ _) _=some l'∧_;by_cases c2:b-mm=1
   ·have ebb:b=mm+1:=by omega
    obtain⟨z,ez,z1,z2,z3,z4⟩:=akz m hl hm hA mm a mm (by omega) (by omega) (by omega);have more:∀q,z≤q→q<mm→hk l mm<hk l q:=λq g1 g2=>by
     rcases z4 with g|g
     ·omega
     ·by_cases e:q=z
      ·rw[e];exact g
      ·have:=s1 z q (by omega) (by omega) (by omega);omega
    obtain⟨c,ec,st,O7,c2',c3⟩:=akx m hl a mm z z1 z2 (by omega) more (mm-z) mm m l (by omega) (by omega) (du _) (eV.id _) rfl (λp g1 g2=>by omega) (λ_ _=>rfl);rw[show(((b-mm:Nat):Int)==1)=true from beq_iff_eq.2 (by omega),bB,ez,aN,ec,aN,ebb];refine⟨c,rfl,st,λp q g1 g2 g3=>?_⟩;by_cases w:q<z
    ·rw[c3 p (by omega),c3 q w];exact s1 p q g1 g2 (by omega)
    ·by_cases w2:q=z
     ·rw[w2,O7,c3 p (by omega)];rcases z3 with g|g
      ·omega
      ·by_cases w5:p=z-1
       ·rw[w5];exact g
       ·have:=s1 p (z-1) g1 (by omega) (by omega);omega
     ·rw[c2' q (by omega) (by omega)];by_cases w3:p<z
      ·rw[c3 p w3];by_cases w4:p=q-1
       ·omega
       ·exact s1 p (q-1) g1 (by omega) (by omega)
      ·by_cases w4:p=z
       ·rw[w4,O7];have:=more (q-1) (by omega) (by omega);omega
       ·rw[c2' p (by omega) (by omega)];exact s1 (p-1) (q-1) (by omega) (by omega) (by omega)
   ·rw[show(((b-mm:Nat):Int)==1)=false from yO.2 (by omega),bh,aN];obtain⟨mid,akB⟩:∃mid,mid=(a+b)/2:=⟨_,rfl⟩;obtain⟨n,hn⟩:∃n,n=mid+mm:=⟨_,rfl⟩;have search:∃st:Nat,(Option.bind (cond (decide ((mid:Int)<(mm:Int))) (some (J (J ((mid:Int)+(mm:Int))-(b:Int)),(mid:Int))) (some ((a:Int),(mm:Int)))) λ(xf:Int×Int)=>yw m l (mm:Int) (mid:Int) m xf.1 xf.2)=some (st:Int)∧a≤st∧st≤mid∧st≤mm∧mm≤n-st∧n-st≤b∧(∀p q,a≤p→p<st→n-st≤q→q<b→hk l p≤hk l q)∧(∀p q,st≤p→p<mm→mm≤q→q<n-st→hk l q<hk l p):=by
     have tail:∀st:Nat,a≤st→st≤mm→mm≤n-st→n-st≤b→(st=a∨n-st=b∨hk l (st-1)≤hk l (n-st))→(st=mm∨n-st=mm∨hk l (n-1-st)<hk l st)→(∀p q,a≤p→p<st→n-st≤q→q<b→hk l p≤hk l q)∧(∀p q,st≤p→p<mm→mm≤q→q<n-st→hk l q<hk l p):=by
      intro st t1 t2 t3 t4 t5 t6;refine⟨λp q g1 g2 g3 g4=>?_,λp q g1 g2 g3 g4=>?_⟩
      ·rcases t5 with g|g|g
       ·omega
       ·omega
       ·have x1:hk l p≤hk l (st-1):=by
         by_cases e:p=st-1
         ·rw[e];exact Int.le_refl _
         ·exact s1 p (st-1) g1 (by omega) (by omega)
        have x2:hk l (n-st)≤hk l q:=by
         by_cases e:n-st=q
         ·rw[e];exact Int.le_refl _
         ·exact s2 (n-st) q t3 (by omega) g4
        omega
      ·rcases t6 with g|g|g
       ·omega
       ·omega
       ·have x1:hk l q≤hk l (n-1-st):=by
         by_cases e:q=n-1-st
         ·rw[e];exact Int.le_refl _
         ·exact s2 q (n-1-st) g3 (by omega) (by omega)
        have x2:hk l st≤hk l p:=by
         by_cases e:st=p
         ·rw[e];exact Int.le_refl _
         ·exact s1 st p t1 (by omega) g2
        omega
     by_cases yB:mid<mm
     ·rw[dT (by omega),aN,pP (by omega),n5 (by omega) (by omega)];obtain⟨st,e,q1,q2,q3,q4⟩:=a5W m hl hm hA mm mid (mid+mm-b) mid n hn.symm (by omega) (by omega) (λc g1 g2=>by omega);obtain⟨u1,u2⟩:=tail st (by omega) (by omega) (by omega) (by omega) (by rcases q3 with g|g;exact .inr (.inl (by omega));exact .inr (.inr g)) (by rcases q4 with g|g;exact .inr (.inl (by omega));exact .inr (.inr g));exact⟨st,e,by omega,by omega,by omega,by omega,by omega,u1,u2⟩
     ·rw[dF (by omega),aN];obtain⟨st,e,q1,q2,q3,q4⟩:=a5W m hl hm hA mm mid a mm n hn.symm (by omega) (by omega) (λc g1 g2=>by omega);obtain⟨u1,u2⟩:=tail st (by omega) (by omega) (by omega) (by omega) (by rcases q3 with g|g;exact .inl g;exact .inr (.inr g)) (by rcases q4 with g|g;exact .inl g;exact .inr (.inr g));exact⟨st,e,by omega,by omega,by omega,by omega,by omega,u1,u2⟩
    obtain⟨st,es,t1,t2,t3,t4,t5,cA,cB⟩:=search;obtain⟨en,hen⟩:∃en,en=n-st:=⟨_,rfl⟩;rw[←hen]at t4 t5 cA cB;have w1:J (J ((mid:Int)+(mm:Int))-(st:Int))=(en:Int):=by rw[pP (by omega),n5 (by omega) (by omega),hen,hn]
    -- the turning
    have turn:∃l2,cond (cond (decide ((st:Int)<(mm:Int))) (decide ((mm:Int)<(en:Int))) false) (Option.bind (Jw m l (st:Int) (mm:Int) (en:Int)) λRJ=>some RJ) (some l)=some l2∧l2.length=l.length∧∀k,hx l2 k=pQ (hx l) st mm en k:=by
     by_cases g1:st<mm
     ·by_cases g2:mm<en
      ·obtain⟨l2,e,a1,a2⟩:=akv m st mm en l g1 g2 (by omega) (by omega) hm;refine⟨l2,?_,a1,a2⟩;rw[dT (by omega),dT (by omega),e];rfl
      ·refine⟨l,?_,rfl,λk=>?_⟩
       ·rw[show decide ((mm:Int)<(en:Int))=false from eK (by omega),show∀x:Bool,cond x false false=false from λx=>by cases x<;>rfl];rfl
       ·rw[pQ,if_neg (by omega)];by_cases g:st+(en-mm)≤k∧k<en
        ·rw[if_pos g];exact congrArg (hx l) (by omega)
        ·rw[if_neg g]
     ·refine⟨l,?_,rfl,λk=>?_⟩
      ·rw[show decide ((st:Int)<(mm:Int))=false from eK (by omega)];rfl
      ·rw[pQ];by_cases g:st≤k∧k<st+(en-mm)
       ·rw[if_pos g];exact congrArg (hx l) (by omega)
       ·rw[if_neg g,if_neg (by omega)]
    obtain⟨l2,e2,akC,O8⟩:=turn;have ZB:eV a b l l2:=(akA t3 t4 (by omega) akC O8 cB).up t1 t5;have em:st+(en-mm)=mid:=by omega
    have v1:∀p,a≤p→p<st→hk l2 p=hk l p:=λp g1 g2=>by rw[hk,O8,pQ,if_neg (by omega),if_neg (by omega)]
    have v2:∀p,st≤p→p<mid→hk l2 p=hk l (p+(mm-st)):=λp g1 g2=>by rw[hk,O8,pQ,if_pos (by omega)]
    have v3:∀p,mid≤p→p<en→hk l2 p=hk l (p-(en-mm)):=λp g1 g2=>by rw[hk,O8,pQ,if_neg (by omega),if_pos (by omega)]
    have v4:∀p,en≤p→hk l2 p=hk l p:=λp g1=>by rw[hk,O8,pQ,if_neg (by omega),if_neg (by omega)]
    have x1:Sg a st l2:=λp q g1 g2 g3=>by rw[v1 p g1 (by omega),v1 q (by omega) g3];exact s1 p q g1 g2 (by omega)
    have x2:Sg st mid l2:=λp q g1 g2 g3=>by rw[v2 p g1 (by omega),v2 q (by omega) g3];exact s2 _ _ (by omega) (by omega) (by omega)
    have x3:Sg mid en l2:=λp q g1 g2 g3=>by rw[v3 p g1 (by omega),v3 q (by omega) g3];exact s1 _ _ (by omega) (by omega) (by omega)
    have x4:Sg en b l2:=λp q g1 g2 g3=>by rw[v4 p g1,v4 q (by omega)];exact s2 _ _ (by omega) (by omega) (by omega)
    have cr:∀p q,a≤p→p<mid→mid≤q→q<b→hk l2 p≤hk l2 q:=λp q g1 g2 g3 g4=>by
     by_cases w:p<st
     ·rw[v1 p g1 w];by_cases w2:q<en
      ·rw[v3 q g3 w2];exact s1 _ _ g1 (by omega) (by omega)
      ·rw[v4 q (by omega)];exact cA p q g1 w (by omega) g4
     ·rw[v2 p (by omega) g2];by_cases w2:q<en
      ·rw[v3 q g3 w2];have:=cB (q-(en-mm)) (p+(mm-st)) (by omega) (by omega) (by omega) (by omega);omega
      ·rw[v4 q (by omega)];exact s2 _ _ (by omega) (by omega) g4
    -- the two halves
    have left:∃l3,cond (cond (decide ((a:Int)<(st:Int))) (decide ((st:Int)<(mid:Int))) false) (Option.bind (Be m k l2 (a:Int) (st:Int) (mid:Int)) λRL=>some RL) (some l2)=some l3∧eV a mid l2 l3∧Sg a mid l3:=by
     by_cases g1:a<st
     ·by_cases g2:st<mid
      ·obtain⟨l3,e,a1,a2⟩:=ih l2 a st mid (by omega) g1 g2 (by omega) (by omega) (by omega) (ZB.kb hA) x1 x2;refine⟨l3,?_,a1,a2⟩;rw[dT (by omega),dT (by omega),e];rfl
      ·refine⟨l2,?_,eV.id _,?_⟩
       ·rw[show decide ((st:Int)<(mid:Int))=false from eK (by omega),show∀x:Bool,cond x false false=false from λx=>by cases x<;>rfl];rfl
       ·rw[show mid=st by omega];exact x1
     ·refine⟨l2,?_,eV.id _,?_⟩
      ·rw[show decide ((a:Int)<(st:Int))=false from eK (by omega)];rfl
      ·rw[show a=st by omega];exact x2
    obtain⟨l3,e3,O9,y1⟩:=left;have u3:∀p,mid≤p→hk l3 p=hk l2 p:=λp g=>congrArg bS.dJ (O9.out p (.inr g));have amp:=O9.len;have right:∃l4,cond (cond (decide ((mid:Int)<(en:Int))) (decide ((en:Int)<(b:Int))) false) (Option.bind (Be m k l3 (mid:Int) (en:Int) (b:Int)) λRM=>some RM) (some l3)=some l4∧eV mid b l3 l4∧Sg mid b l4:=by
     have x3':Sg mid en l3:=λp q g1 g2 g3=>by rw[u3 p g1,u3 q (by omega)];exact x3 p q g1 g2 g3
     have x4':Sg en b l3:=λp q g1 g2 g3=>by rw[u3 p (by omega),u3 q (by omega)];exact x4 p q g1 g2 g3
     by_cases g1:mid<en
     ·by_cases g2:en<b
      ·obtain⟨l4,e,a1,a2⟩:=ih l3 mid en b (by omega) g1 g2 (by omega) (by omega) (by omega) (O9.kb (ZB.kb hA)) x3' x4';refine⟨l4,?_,a1,a2⟩;rw[dT (by omega),dT (by omega),e];rfl
      ·refine⟨l3,?_,eV.id _,?_⟩
       ·rw[show decide ((en:Int)<(b:Int))=false from eK (by omega),show∀x:Bool,cond x false false=false from λx=>by cases x<;>rfl];rfl
       ·rw[show b=en by omega];exact x3'
     ·refine⟨l3,?_,eV.id _,?_⟩
      ·rw[show decide ((mid:Int)<(en:Int))=false from eK (by omega)];rfl
      ·rw[show mid=en by omega];exact x4'
    obtain⟨l4,e4,Oa,y2⟩:=right;refine⟨l4,?_,ZB.tr ((O9.up (du _) (by omega)).tr (Oa.up (by omega) (du _))),λp q g1 g2 g3=>?_⟩
    ·rw[Su a b (by omega),←akB,GF (by omega),lt_eq];show Option.bind (cond (decide ((mid:Int)<(mm:Int))) _ _) _=_;rw[←Option.bind_assoc,es,aN,lt_eq,w1,e2,aN,lt_eq,e3,aN,lt_eq,lt_eq];exact e4
    ·by_cases w:q<mid
     ·rw[show hk l4 p=hk l3 p from congrArg bS.dJ (Oa.out p (.inl (by omega))),show hk l4 q=hk l3 q from congrArg bS.dJ (Oa.out q (.inl w))];exact y1 p q g1 g2 w
     ·by_cases w2:p<mid
      ·obtain⟨p',p1,p2,p3⟩:=O9.was (by omega) g1 w2;obtain⟨q',q1,q2,q3⟩:=Oa.was (by omega) (show mid≤q by omega) g3;rw[show hk l4 p=hk l2 p' from by rw[show hk l4 p=hk l3 p from congrArg bS.dJ (Oa.out p (.inl w2))];exact congrArg bS.dJ p3,show hk l4 q=hk l3 q' from congrArg bS.dJ q3,u3 q' q1];exact cr p' q' p1 p2 q1 q2
      ·exact y2 p q (by omega) g2 g3
theorem a5Y{i:Nat}(h:i<1000000000000):J (2*(i:Int))=((2*i:Nat):Int):=by rw[na (by omega) (by omega)];omega
theorem akD{i:Nat}(h:i<1000000000000):J ((i:Int)*2)=((2*i:Nat):Int):=by rw[na (by omega) (by omega)];omega
def Bk(s n:Nat)(l:HL):Prop:=∀t,Sg (t*s) (min (t*s+s) n) l
def Bd(s a:Nat)(l:HL):Prop:=∀t,t*s+s≤a→Sg (t*s) (t*s+s) l
theorem Bd.step{s t a:Nat}(hs:0<s)(ha:a=t*s){l l':HL}(h:Bd s a l)(st:eV a (a+s) l l')(hg:Sg a (a+s) l'):Bd s (a+s) l':=by
 intro u hu;by_cases e:u=t
 ·rw[e,←ha];exact hg
 ·have h1:u≤t:=by
   have:u*s≤t*s:=by omega
   exact Nat.le_of_mul_le_mul_right this hs
  have h2:u*s+s≤a:=by
   have:(u+1)*s≤t*s:=Nat.mul_le_mul_right s (by omega);rw[Nat.add_mul,Nat.one_mul]at this;omega
  have k:∀p,p<a→hk l' p=hk l p:=λp g=>congrArg bS.dJ (st.out p (.inl g));intro p q g1 g2 g3;rw[k p (by omega),k q (by omega)];exact h u h2 p q g1 g2 g3
theorem Bd.whole{s t a n:Nat}(hs:0<s)(ha:a=t*s)(hn:n<a+s){l l':HL}(h:Bd s a l)(st:eV a n l l')(hg:Sg a n l'):Bk s n l':=by
 intro u;have k:∀p,p<a→hk l' p=hk l p:=λp g=>congrArg bS.dJ (st.out p (.inl g));intro p q g1 g2 g3;by_cases e:u=t
 ·exact hg p q (by rw[ha,←e];exact g1) g2 (by omega)
 ·by_cases h1:u<t
  ·have h2:u*s+s≤a:=by
    have:(u+1)*s≤t*s:=Nat.mul_le_mul_right s (by omega);rw[Nat.add_mul,Nat.one_mul]at this;omega
   rw[k p (by omega),k q (by omega)];exact h u h2 p q g1 g2 (by omega)
  ·have:(t+1)*s≤u*s:=Nat.mul_le_mul_right s (by omega);rw[Nat.add_mul,Nat.one_mul]at this;omega
theorem akE(m n:Nat)(l:HL)(hn:n=l.length)(hl:l.length<1000000000)(hm:l.length+1<m)(hA:Kb l):∀(kk t:Nat)(c:HL),n-20*t<kk→t*20≤n→eV 0 (t*20) l c→Bd 20 (t*20) c→
   ∃(t':Nat)(c':HL),Dv m (n:Int) kk c ((t*20:Nat):Int) ((t*20+20:Nat):Int)=some (((t'*20:Nat):Int),c')∧t'*20≤n∧n<t'*20+20∧eV 0 (t'*20) l c'∧Bd 20 (t'*20) c':=by
 intro kk
 induction kk with
 |zero=>intro t c h;omega
 |succ kk ih=>
  intro t c uf ht st bd;rw[Dv];by_cases h:t*20+20≤n
  ·obtain⟨c1,e1,s1,g1⟩:=a5V m (t*20) (t*20+20) c (by omega) (by rw[st.len];omega) (by rw[st.len];omega) (by rw[st.len];omega) (st.kb hA);rw[dT (by omega),e1,aN,show J (((t*20+20:Nat):Int)+20)=(((t+1)*20+20:Nat):Int)from by rw[na (by omega) (by omega)];omega,show t*20+20=(t+1)*20 by omega];exact ih (t+1) c1 (by omega) (by omega) ((st.up (du _) (by omega)).tr (s1.up (fI _) (by omega))) (by rw[show(t+1)*20=t*20+20 by omega];exact bd.step (by omega) rfl s1 g1)
  ·rw[dF (by omega)];exact⟨t,c,rfl,ht,by omega,st,bd⟩
theorem akF(m n s:Nat)(l:HL)(hs:0<s)(hsn:s<n)(hn:n=l.length)(hl:l.length<1000000000)(hm:l.length+1<m)(hA:Kb l)(hb:Bk s n l):∀(kk t:Nat)(c:HL),n-t*(2*s)<kk→t*(2*s)≤n→eV 0 (t*(2*s)) l c→Bd (2*s) (t*(2*s)) c→
   ∃(t':Nat)(c':HL),Gj m (n:Int) (s:Int) kk c ((t*(2*s):Nat):Int) ((t*(2*s)+2*s:Nat):Int)=some (((t'*(2*s):Nat):Int),c')∧t'*(2*s)≤n∧n<t'*(2*s)+2*s∧eV 0 (t'*(2*s)) l c'∧Bd (2*s) (t'*(2*s)) c':=by
 intro kk
 induction kk with
 |zero=>intro t c h;omega
 |succ kk ih=>
  intro t c uf ht st bd;have e1:(t+1)*(2*s)=t*(2*s)+2*s:=by rw[Nat.add_mul,Nat.one_mul]
  have e2:2*t*s=t*(2*s):=by rw[Nat.mul_comm 2 t,Nat.mul_assoc]
  have e3:(2*t+1)*s=t*(2*s)+s:=by rw[Nat.add_mul,Nat.one_mul,e2]
  rw[Gj];generalize ea:t*(2*s)=a at*;by_cases h:a+2*s≤n
  ·have k:∀p,a≤p→hk c p=hk l p:=λp g=>congrArg bS.dJ (st.out p (.inr g));have b1:=hb (2*t);have b2:=hb (2*t+1);rw[e2]at b1;rw[e3]at b2;obtain⟨c1,ec,s1,g1⟩:=a5X m m c a (a+s) (a+2*s) (by omega) (by omega) (by omega) (by rw[st.len];omega) (by rw[st.len];omega) (by rw[st.len];omega) (st.kb hA) (λp q g1 g2 g3=>by rw[k p g1,k q (by omega)];exact b1 p q g1 g2 (by omega)) (λp q g1 g2 g3=>by rw[k p (by omega),k q (by omega)];exact b2 p q g1 g2 (by omega));have Oc:Jx m c (a:Int) ((a+s:Nat):Int) ((a+2*s:Nat):Int)=some c1:=ec;rw[dT (by omega),pP (by omega),Oc,aN,a5Y (by omega),pP (by omega)];have:=ih (t+1) c1 (by omega) (by omega) (by rw[e1];exact(st.up (du _) (by omega)).tr (s1.up (fI _) (by omega))) (by rw[e1];exact bd.step (by omega) ea.symm s1 g1);rw[e1]at this;exact this
  ·rw[dF (by omega)];exact⟨t,c,by rw[ea],by omega,by omega,by rw[ea];exact st,by rw[ea];exact bd⟩
theorem akG(m n:Nat)(l:HL)(hn:n=l.length)(hl:l.length<1000000000)(hm:l.length+1<m)(hA:Kb l):∀(kk s:Nat)(c:HL),n-s<kk→0<s→s<4000000000→eV 0 n l c→Bk s n c→
   ∃c',Dw m (n:Int) kk c (s:Int)=some c'∧eV 0 n l c'∧Sg 0 n c':=by
 intro kk
 induction kk with
 |zero=>intro s c h;omega
 |succ kk ih=>
  intro s c uf hs GQ st bk;rw[Dw];by_cases h:s<n
  ·have lc:=st.len;obtain⟨t,c1,e1,t1,t2,s1,d1⟩:=akF m n s c hs h (by rw[lc];exact hn) (by omega) (by omega) (st.kb hA) bk m 0 c (by omega) (by omega) (by rw[Nat.zero_mul];exact eV.id _) (λu hu p q g1 g2 g3=>by omega);have qm:Gj m (n:Int) (s:Int) m c 0 ((2*s:Nat):Int)=some (((t*(2*s):Nat):Int),c1):=by
    have:=e1;rw[Nat.zero_mul,Nat.zero_add]at this;exact this
   have x1:2*t*s=t*(2*s):=by rw[Nat.mul_comm 2 t,Nat.mul_assoc]
   have x2:(2*t+1)*s=t*(2*s)+s:=by rw[Nat.add_mul,Nat.one_mul,x1]
   have b1:=bk (2*t);have b2:=bk (2*t+1);rw[x1]at b1;rw[x2]at b2;obtain⟨a,ea⟩:∃a,t*(2*s)=a:=⟨_,rfl⟩;rw[ea]at qm t1 t2 s1 d1 b1 b2;have k:∀p,a≤p→hk c1 p=hk c p:=λp g=>congrArg bS.dJ (s1.out p (.inr g));have lc1:=s1.len;rw[dT (by omega),a5Y (by omega),qm,aN];dsimp only;rw[pP (by omega),akD (by omega)];have last:∃c2,cond (decide (((a+s:Nat):Int)<(n:Int))) (Option.bind (Jx m c1 (a:Int) ((a+s:Nat):Int) (n:Int)) λRR=>some RR) (some c1)=some c2∧eV a n c1 c2∧Sg a n c2:=by
    by_cases g:a+s<n
    ·obtain⟨c2,ec,s2,g2⟩:=a5X m m c1 a (a+s) n (by omega) (by omega) g (by omega) (by omega) (by omega) (s1.kb (st.kb hA)) (λp q g1 g2 g3=>by rw[k p g1,k q (by omega)];exact b1 p q g1 g2 (by omega)) (λp q g1 g2 g3=>by rw[k p (by omega),k q (by omega)];exact b2 p q g1 g2 (by omega));have Oc:Jx m c1 (a:Int) ((a+s:Nat):Int) (n:Int)=some c2:=ec;exact⟨c2,by rw[dT (by omega),Oc];rfl,s2,g2⟩
    ·exact⟨c1,by rw[dF (by omega)],eV.id _,λp q g1 g2 g3=>by rw[k p g1,k q (by omega)];exact b1 p q g1 g2 (by omega)⟩
   obtain⟨c2,e2,s2,g2⟩:=last;rw[e2,aN];exact ih (2*s) c2 (by omega) (by omega) (by omega) ((st.tr (s1.up (du _) (by omega))).tr (s2.up (fI _) (du _))) (d1.whole (by omega) ea.symm t2 s2 g2)
  ·rw[dF (by omega)];exact⟨c,rfl,st,λp q g1 g2 g3=>bk 0 p q (by omega) g2 (by omega)⟩
theorem akH(m:Nat)(l:HL)(hl:l.length<1000000000)(hm:l.length+1<m)(hA:Kb l):
   ∃l',NH m l=some l'∧eV 0 l.length l l'∧Sg 0 l.length l':=by
 obtain⟨t,c1,e1,t1,t2,s1,d1⟩:=akE m l.length l rfl hl hm hA m 0 l (by omega) (by omega) (eV.id _) (λu hu p q g1 g2 g3=>by omega);have qm:Dv m (l.length:Int) m l 0 20=some (((t*20:Nat):Int),c1):=e1;obtain⟨c2,e2,s2,g2⟩:=a5V m (t*20) l.length c1 t1 (by rw[s1.len];omega) (by rw[s1.len];omega) (by rw[s1.len];omega) (s1.kb hA);have s12:eV 0 l.length l c2:=(s1.up (du _) t1).tr (s2.up (fI _) (du _));obtain⟨c3,e3,s3,g3⟩:=akG m l.length l rfl hl hm hA m 20 c2 (by omega) (by omega) (by omega) s12 (d1.whole (by omega) rfl t2 s2 g2);refine⟨c3,?_,s3,g3⟩;have ZC:Dw m (l.length:Int) m c2 20=some c3:=e3;rw[NH,RS];show Option.bind (Option.bind (Dv m (l.length:Int) m l 0 20) _) _=_;rw[qm,aN];show Option.bind (Option.bind (Gb m c1 ((t*20:Nat):Int) (l.length:Int)) _) _=_;rw[e2,aN];show Option.bind (Dw m (l.length:Int) m c2 20) _=_;rw[ZC,aN]
abbrev OkS(m:Nat)(s:fJ):Prop:=cond (decide (s.gN<1)) true (decide (3<s.gN))=false∧Ib m (tE.mk s.ed.br)=some 0
theorem akI(m:Nat)(l:List fJ)(hl:l.length≤8):∀(kk i:Nat),zo m l kk (i:Int)=some (.inr ())→∀s∈l.drop i,OkS m s:=by
 intro kk
 induction kk with
 |zero=>intro i h;cases h
 |succ kk ih=>
  intro i h s hs;by_cases hi:i<l.length
  ·rw[zo,dL hi,ej hi,lt_eq,hZ l i hi,bQ (by omega)]at h;obtain⟨y,ey,h⟩:=a8 h;cases hx:cond (decide (l[i].gN<1)) true (decide (3<l[i].gN))with
   |true=>rw[hx,bB,bB]at h;cases h
   |false=>
    rw[hx,bh]at h ey;cases hy:(y !=0)with
    |true=>rw[hy,bB]at h;cases h
    |false=>
     rw[hy,bh]at h;have y0:y=0:=bne_eq_false_iff_eq.1 hy;rw[ov hi]at hs;rcases List.mem_cons.1 hs with rfl|hs
     ·exact⟨hx,by rw[ey,y0]⟩
     ·exact ih (i+1) h s hs
  ·rw[yP (by omega)]at hs;cases hs
theorem akJ(m:Nat){l:List fJ}(h:zp m l=some 0):l.length≤8∧∀s∈l,OkS m s:=by
 rw[zp]at h;by_cases h8:8<l.length
 ·rw[kq (by unfold ln;omega),bB]at h;cases h
 ·rw[eK (by unfold ln;omega),bh]at h;obtain⟨z,ez,h⟩:=a8 h;cases z with
  |inl x=>
   have:some x=some (0:Int):=h;cases this;exfalso;have q:∀(kk:Nat)(i:Int),zo m l kk i≠some (.inl 0):=by
    intro kk
    induction kk with
    |zero=>intro i h;cases h
    |succ kk ih=>
     intro i h;rw[zo]at h;cases hd:decide (i<ln l)with
     |false=>rw[hd,bh]at h;cases h
     |true=>
      rw[hd,bB]at h;obtain⟨_,h⟩:=bY h;rw[lt_eq]at h;obtain⟨y,ey,h⟩:=a8 h;cases hc:cond (cond (decide ((gi l i).gN<1)) true (decide (3<(gi l i).gN))) true (y !=0)with
      |true=>rw[hc,bB]at h;cases h
      |false=>rw[hc,bh]at h;exact ih _ h
   exact q m 0 ez
  |inr u=>
   have:=akI m l (by omega) m 0 ez;rw[pa]at this;exact⟨by omega,this⟩
theorem akK(m:Nat)(a b:List a7)(h:a.length=b.length)(hl:a.length<LN):∀(kk i:Nat),a.length-i<kk→i≤a.length→a.take i=b.take i→
   ∃z,Jq m a b kk (i:Int)=some z∧de z (λ_=>some true)=some (decide (a=b)):=by
 unfold LN at hl;intro kk
 induction kk with
 |zero=>intro i h;omega
 |succ kk ih=>
  intro i hk hi ht;rw[Jq];by_cases lI:i<a.length
  ·rw[qw (by omega),bB,ej lI,ej (by omega),ajq ht lI (by omega)];by_cases e:a.take (i+1)=b.take (i+1)
   ·rw[kq e,nT,bQ (by omega)];exact ih (i+1) (by omega) (by omega) e
   ·rw[eK e,nF];exact⟨_,rfl,by rw[eK (λx=>e (by rw[x]))];rfl⟩
  ·rw[dG (by omega)];rw[List.take_of_length_le (by omega),List.take_of_length_le (by omega)]at ht;exact⟨_,rfl,by rw[kq ht];rfl⟩
theorem eqp(m:Nat){a b:List a7}(ha:a.length<LN)(hb:b.length<LN)(hm:LN<m):NC m a b=some (decide (a=b)):=by
 rw[NC];by_cases h:a.length=b.length
 ·rw[show(ln a !=ln b)=false from by unfold ln;rw[h];exact bne_self_eq_false _,bh];obtain⟨z,e,hz⟩:=akK m a b h ha m 0 (by omega) (fI _) rfl;have e':Jq m a b m 0=some z:=e;rw[e',aN,hz]
 ·rw[show(ln a !=ln b)=true from bne_iff_ne.2 (by unfold ln;omega),bB,eK (λx=>h (by rw[x]))]
theorem ixf(m:Nat)(o:LP)(x:bI)(im:Bool)(hx:x.fy.length<LN)(ho:∀y∈o,y.length<LN)(hl:o.length<1000000000)(hlm:o.length<m)(hm:LN<m)(rW:x.fy∈o):
   Ju m o x.source x.fy x.rule.af x.rule.dE x.rule.cW x.rule.aS.af x.rule.aS.bm x.rule.aS.cN x.rule.aS.aQ.bm x.rule.aS.aQ.Value im x.rule.aS.aa x.rule.bK x.rule.br=some ((o.idxOf x.fy:Nat):Int):=by
 have hi:=List.idxOf_lt_length_of_mem rW;have:∀(kk i:Nat),o.length-i<kk→i≤o.idxOf x.fy→Jt m o x.source x.fy x.rule.af x.rule.dE x.rule.cW x.rule.aS.af x.rule.aS.bm x.rule.aS.cN x.rule.aS.aQ.bm x.rule.aS.aQ.Value im x.rule.aS.aa x.rule.bK x.rule.br kk (i:Int)=some (.inl ((o.idxOf x.fy:Nat):Int)):=by
  intro kk
  induction kk with
  |zero=>intro i h;omega
  |succ kk ih=>
   intro i hk lI;have Sw:i<o.length:=by omega
   rw[Jt,dL Sw,ej Sw,hZ o i Sw,Rr,eqp m (ho _ (List.getElem_mem Sw)) hx hm,aN,aN];by_cases e:o[i]=x.fy
   ·rw[kq e,bB];have:o.idxOf x.fy≤i:=by
     rcases Nat.lt_or_ge i (o.idxOf x.fy)with h|h
     ·exact absurd e (by simpa using List.not_of_lt_findIdx (p:=(· ==x.fy)) (xs:=o) h)
     ·exact h
    rw[show i=o.idxOf x.fy by omega]
   ·rw[eK e,bh,bQ (by omega)];have hQ:i≠o.idxOf x.fy:=λy=>e (by have:=List.getElem_idxOf hi;simp only[←y]at this;exact this);exact ih (i+1) (by omega) (by omega)
 have e:=this m 0 (by omega) (fI _);have e':Jt m o x.source x.fy x.rule.af x.rule.dE x.rule.cW x.rule.aS.af x.rule.aS.bm x.rule.aS.cN x.rule.aS.aQ.bm x.rule.aS.aQ.Value im x.rule.aS.aa x.rule.bK x.rule.br m 0=some (.inl ((o.idxOf x.fy:Nat):Int)):=e;rw[Ju,e'];rfl
theorem akL(m:Nat)(r:bp)(e:js)(h:r.af=1):wT m r e=some true:=by
 rw[wT,h];rfl
theorem akM(m:Nat)(rules:List bp)(src:Int)(pf:List a7)(wd:Int)(rec:List bp→Int→List a7→Int→Mi→LP→List bI→Int→Option (LP×List bI×Mi×Int))(hr:∀r∈rules,r.af=1)(hl:rules.length≤1048576)(sn:Mi)(ps:LP)(b:Int):
   ∀(kk i:Nat)(st:List bI),rules.length-i<kk→i≤rules.length→st.length+(rules.length-i)<16777216→
    CZ m rules src pf wd rec kk (i:Int) ps st b sn=some (ps,st++(rules.drop i).map (bI.mk src pf),sn,b):=by
 intro kk
 induction kk with
 |zero=>intro i st h;omega
 |succ kk ih=>
  intro i st hk hi hs;rw[CZ];by_cases h:i<rules.length
  ·have k1:=hr _ (List.getElem_mem h);rw[dL h,ej h,hZ rules i h,akL m _ _ k1,aN,nT,k1,show((1:Int)==1)=true from rfl,bB,cd (by simp only[ln,fx,ia];omega),lt_eq,aN,aN];show Option.bind (some _) _=_;rw[aN];dsimp only;rw[bQ (by omega),ih (i+1) _ (by omega) (by omega) (by rw[fg,List.length_singleton];omega),ov h,List.map_cons,tA];rfl
  ·rw[dG (by omega),yP (by omega),List.map_nil,List.append_nil]
theorem akN(m k:Nat)(rules:List bp)(src:Int)(pf:List a7)(wd:Int)(hr:∀r∈rules,r.af=1)(hl:rules.length≤1048576)(hm:1048576<m)(sn:Mi)(ps:LP)(st:List bI)(b:Int)(hs:st.length+rules.length<16777216):
   zz m (k+1) rules src pf wd sn ps st b=some (ps,st++rules.map (bI.mk src pf),sn,b):=by
 have:=akM m rules src pf wd (zz m k) hr hl sn ps b m 0 st (by omega) (fI _) hs;rw[pa]at this;rw[zz];exact this
abbrev qj(i:Nat)(st:List bI):List bp:=(st.filter λx=>x.source==(i:Int)).map (·.rule)
theorem a5Z(i:Nat)(a b:List bI):qj i (a++b)=qj i a++qj i b:=by simp[qj]
theorem a60(i:Nat)(u:List bI)(h:∀x∈u,x.source≠(i:Int)):qj i u=[]:=by
 rw[qj,List.filter_eq_nil_iff.2 (λx hx=>by simpa using h x hx)];rfl
theorem akO(i:Nat)(rs:List bp)(pf:List a7):qj i (rs.map (bI.mk (i:Int) pf))=rs:=by
 induction rs with
 |nil=>rfl
 |cons r rs ih=>
  rw[List.map_cons,qj,List.filter_cons_of_pos (by simp),List.map_cons];exact congrArg (r::·) ih
section
variable (m:Nat) (hm:LN<m) (e:js) (hh:∀r:bp,zR r≤1048576→∃b,wT m r (js.mk e.cY)=some b)
include hm hh
theorem akP(l:List fJ)(og:Int)(hz:iP l≤1048576)(j:Nat)(hj:j<l.length)(ZD:l[j].gN=og)(GL:∀r∈l[j].ed.br,r.af=1):∀(kk i:Nat)(sn:Mi)(ps:LP)(st:List bI)(b:Nat),l.length-i<kk→i≤l.length→Tv sn ps→ps.length+iP (l.drop i)<16777216→st.length+iP (l.drop i)<16777216→b+iP (l.drop i)<16777216→
   ∀r,B0 m l e og kk (i:Int) (b:Int) ps st sn=some r→(i≤j→qj j r.2.2.1=qj j st++l[j].ed.br)∧(j<i→qj j r.2.2.1=qj j st):=by
 have hlen:=O2 l;intro kk
 induction kk with
 |zero=>intro i sn ps st b h;omega
 |succ kk ih=>
  intro i sn ps st b hk hi hT h1 h2 h3 r hr;rw[B0]at hr;by_cases h:i<l.length
  ·have hd:=a5F h;have uq:zO l[i]+iP (l.drop (i+1))≤1048576:=by
    have:∀(l:List fJ)(i:Nat),iP (l.drop i)≤iP l:=by
     intro l
     induction l with
     |nil=>intro i;simp
     |cons x l ih=>intro i;cases i with
       |zero=>exact du _
       |succ i=>rw[List.drop_succ_cons,iP];have:=ih i;omega
    have:=this l i;omega
   have hO:dZ l[i].ed.br+4=zO l[i]:=by unfold zO;omega
   rw[dL h,ej h,hZ l i h]at hr;cases JZ:l[i].gN==og with
   |true=>
    obtain⟨ol,nG,pp,b1,e1,g⟩:=a5E m hm e.cY hh m l[i].ed.br (i:Int) [] sn ps st b (by unfold LN at hm;omega) (by omega) hT (λk g1 g2=>by simp at g2;omega) (by unfold LN;simp;omega) (by unfold SZ;simp[lF];omega) (by omega) (by omega) (by omega);obtain⟨t,et,GK⟩:=g.p;obtain⟨u,eu,lu⟩:=g.s;have Ke:=g.b2;rw[JZ,bB,R2,e1,aN,aN,bQ (by omega)]at hr;have:=ih (i+1) pp ol nG b1 (by omega) (by omega) g.tv (by rw[et,fg];omega) (by rw[eu,fg];omega) (by omega) r hr;by_cases dP:i=j
    ·subst dP;obtain⟨k,rfl⟩:∃k,m=k+1:=⟨m-1,by unfold LN at hm;omega⟩;have hrl:=Sq l[i].ed.br;have e2:=akN (k+1) k l[i].ed.br (i:Int) [] e.cY GL (by omega) (by unfold LN at hm;omega) sn ps st (b:Int) (by omega);rw[e1]at e2;injection e2 with e2;injection e2 with _ e2;injection e2 with e2 _;refine⟨λ_=>?_,λh=>absurd h (by omega)⟩;rw[this.2 (by omega),e2,a5Z,akO]
    ·have:qj j nG=qj j st:=by
      rw[eu,a5Z,a60 j u (λx hx=>by rw[(g.y u eu x hx).1];omega),List.append_nil]
     rename_i a61;refine⟨λh=>by rw[a61.1 (by omega),this],λh=>by rw[a61.2 (by omega),this]⟩
   |false=>
    rw[JZ,bh,aN,bQ (by omega)]at hr;have dP:i≠j:=λe=>by subst e;rw[ZD,beq_self_eq_true]at JZ;cases JZ
    have:=ih (i+1) sn ps st b (by omega) (by omega) hT (by omega) (by omega) (by omega) r hr;exact⟨λh=>this.1 (by omega),λh=>this.2 (by omega)⟩
  ·rw[dG (by omega)]at hr;cases hr;exact⟨λh'=>absurd h' (by omega),λ_=>rfl⟩
end
theorem akQ:∀x:bp,bp.mk x.af x.dE x.cW (bq.mk x.aS.af x.aS.bm x.aS.cN (cR.mk x.aS.aQ.bm x.aS.aQ.Value x.aS.aQ.jr) x.aS.aa) x.bK x.br=x
 | .mk _ _ _ (.mk _ _ _ ⟨_,_,_⟩ _) _ _=>rfl
def pR(o:LP)(x:bI):bS:=⟨x.source,cond (decide (0<x.fy.length)) ((o.idxOf x.fy:Nat):Int) (o.length:Int),0,x.rule⟩
theorem ZE(m:Nat)(hm:LN<m)(sn:Mi)(ps:LP)(st:List bI)(o:LP)(ho:∀y∈o,y.length<LN)(Ee:o.length≤1048576)(hs:∀x∈st,x.fy=[]∨x.fy∈o)(hl:st.length≤1048576):
   ∀(kk i:Nat)(acc:HL),st.length-i<kk→i≤st.length→acc.length+(st.length-i)<16777216→Dx m (sn,ps,st) o kk acc (i:Int)=some (acc++(st.drop i).map (pR o)):=by
 unfold LN at hm;intro kk
 induction kk with
 |zero=>intro i acc h;omega
 |succ kk ih=>
  intro i acc hk hi ha;rw[Dx];dsimp only;by_cases h:i<st.length
  ·have rW:=List.getElem_mem h;have z:Option.bind (lt (decide (0<ln (st[i].fy))) λRT=>cond RT (Option.bind (Ju m o st[i].source st[i].fy st[i].rule.af st[i].rule.dE st[i].rule.cW st[i].rule.aS.af st[i].rule.aS.bm st[i].rule.aS.cN st[i].rule.aS.aQ.bm st[i].rule.aS.aQ.Value st[i].rule.aS.aQ.jr st[i].rule.aS.aa st[i].rule.bK st[i].rule.br) λpK=>some pK) (some (ln o))) some=some (pR o st[i]).ta:=by
    rw[lt_eq,pR];by_cases g:0<st[i].fy.length
    ·have hmo:=(hs _ rW).resolve_left (λe=>by rw[e]at g;exact absurd g (by simp));rw[kq (by unfold ln;omega),bB,ixf m o st[i] _ (ho _ hmo) ho (by omega) (by omega) (by unfold LN;omega) hmo];show _=some (cond (decide (0<st[i].fy.length)) _ _);rw[kq g];rfl
    ·rw[eK (by unfold ln;omega),bh];show _=some (cond (decide (0<st[i].fy.length)) _ _);rw[eK g];rfl
   obtain⟨w,ew,hw⟩:=a8 z;have SR:w=(pR o st[i]).ta:=Option.some.inj hw;rw[dL h,ej h,hZ st i h,ew,aN,akQ,SR,cd (by simp only[ln,fx,ia];omega),lt_eq,bQ (by omega)];have e:bS.mk st[i].source (pR o st[i]).ta 0 st[i].rule=pR o st[i]:=rfl;rw[e,ih (i+1) _ (by omega) (by omega) (by rw[fg,List.length_singleton];omega),ov h,List.map_cons,tA];rfl
  ·rw[dG (by omega),yP (by omega),List.map_nil,List.append_nil]
def sO(x:bS)(n:Int):bS:=⟨x.dJ,x.ta,n,x.cc⟩
theorem akR(m:Nat)(y:HL)(hl:y.length<1000000000):∀(kk i:Nat)(c:HL),y.length-i<kk→i≤y.length→c.length=y.length→(∀k,hx c k=if k<i then sO (hx y k) k else hx y k)→
   ∃c',Jz m y kk c (i:Int)=some c'∧c'.length=y.length∧∀k,k<y.length→hx c' k=sO (hx y k) k:=by
 intro kk
 induction kk with
 |zero=>intro i c h;omega
 |succ kk ih=>
  intro i c hk hi hc h;rw[Jz];by_cases hd:i<y.length
  ·rw[show decide ((i:Int)<ln y)=true from kq (by unfold ln;omega),bB,cd (by unfold ln;omega),lt_eq,bQ (by omega),qX,O5];refine ih (i+1) _ (by omega) (by omega) (by rw[List.length_set];exact hc) (λk=>?_);have E4:hx c i=hx y i:=by rw[h,if_neg (by omega)]
   by_cases e:k=i
   ·subst e;rw[if_pos (by omega),hx,List.getD_eq_getElem?_getD,List.getElem?_set_self (by omega),E4];rfl
   ·have:hx (c.set i ⟨(hx c i).dJ,(hx c i).ta,(i:Int),(hx c i).cc⟩) k=hx c k:=by
     simp only[hx,List.getD_eq_getElem?_getD];rw[List.getElem?_set_ne (λx=>e x.symm)]
    rw[this,h];by_cases g:k<i
    ·rw[if_pos g,if_pos (by omega)]
    ·rw[if_neg g,if_neg (by omega)]
  ·rw[show decide ((i:Int)<ln y)=false from eK (by unfold ln;omega),bh];exact⟨c,rfl,hc,λk hk=>by rw[h,if_pos (by omega)]⟩
abbrev pS(j:Nat)(c:HL):List bp:=(c.filter λx=>x.dJ==(j:Int)).map (·.cc)
theorem a62(j:Nat)(a b:HL):pS j (a++b)=pS j a++pS j b:=by simp[pS]
theorem ZF(j:Nat)(o:LP)(st:List bI):pS j (st.map (pR o))=qj j st:=by
 induction st with
 |nil=>rfl
 |cons x st ih=>
  rw[List.map_cons,pS,qj,List.filter_cons,List.filter_cons];show((if((x.source==(j:Int))=true)then _ else _:HL)).map _=_;by_cases h:(x.source==(j:Int))=true
  ·rw[if_pos h,if_pos h,List.map_cons,List.map_cons];exact congrArg (x.rule::·) ih
  ·rw[if_neg h,if_neg h];exact ih
theorem a63(j:Nat):∀(a b:HL),a.length=b.length→(∀k,k<a.length→(hx a k).dJ=(hx b k).dJ∧(hx a k).cc=(hx b k).cc)→pS j a=pS j b
 |[],[],_,_=>rfl
 |[],_::_,h,_=>by cases h
 |_::_,[],h,_=>by cases h
 |x::a,y::b,h,hk=>by
  have h0:=hk 0 (by simp);have ih:=a63 j a b (by simpa using h) (λk g=>hk (k+1) (by rw[fx];omega));have e1:x.dJ=y.dJ:=h0.1;have e2:x.cc=y.cc:=h0.2;rw[pS,pS,List.filter_cons,List.filter_cons,e1];by_cases g:(y.dJ==(j:Int))=true
  ·rw[if_pos g,if_pos g,List.map_cons,List.map_cons,e2];exact congrArg (y.cc::·) ih
  ·rw[if_neg g,if_neg g];exact ih
section
variable (m:Nat) (hm:LN<m) (us:3145740<m) (e:js) (hh:∀r:bp,zR r≤1048576→∃b,wT m r (js.mk e.cY)=some b) (hI:AG e=true) (l:List fJ) (hz:iP l≤1048576) (hc:zp m l=some 0)
def Od(x:bS):Prop:=∃(i:Nat)(h:i<l.length)(o:LP),x.dJ=(i:Int)∧x.cc.af=1∧G9 m l e l[i].gN=some (o,0)∧0≤x.ta∧x.ta≤(o.length:Int)
include hm us hh hI hz hc
theorem ZG(og:Int)(h1:1≤og)(h3:og≤3):∃(sn:Mi)(ps:LP)(st:List bI)(o:LP),FW m l e og=some (sn,ps,st)∧G7 m sn ps st=some o∧st.length≤1048576∧o.length≤1048576∧(∀y∈o,y.length<LN)∧(∀x∈st,x.fy=[]∨x.fy∈o)∧
   (∀x∈st.map (pR o),Od m e l x∧∃(i:Nat)(h:i<l.length),x.dJ=(i:Int)∧l[i].gN=og)∧∀(j:Nat)(hj:j<l.length),l[j].gN=og→(∀r∈l[j].ed.br,r.af=1)→qj j st=l[j].ed.br:=by
 have hlen:=O2 l;obtain⟨ps,st,sn,b,e1,g⟩:=ajy m hm e hh l og hz m 0 [] [] [] 0 (by omega) (fI _) Tv.nil (by simp;omega) (by simp;omega) (by simp;omega);have qm:B0 m l e og m 0 0 ([]:LP) ([]:List bI) ([]:Mi)=some (((b:Nat):Int),ps,st,sn):=e1;obtain⟨t,et,GK⟩:=g.p;obtain⟨u,eu,lu⟩:=g.s;rw[pa]at GK lu;rw[List.nil_append]at et eu;have gy:=g.y st (List.nil_append _).symm;obtain⟨o,e2,h4,_⟩:=ajs m g.tv hm (by rw[et];omega) (by rw[et];omega) st;have hth:FW m l e og=some (sn,ps,st):=by rw[FW,qm,aN]
 have Ee:o.length≤1048576:=by rw[h4.length_eq,et];omega
 have hox:∀y∈o,y.length<LN:=λy hy=>(g.tv.sz y (h4.mem_iff.1 hy)).len;have akS:∀x∈st,x.fy=[]∨x.fy∈o:=λx hx=>(gy x hx).2.2.imp_right (λq=>h4.mem_iff.2 q);have To:G9 m l e og=some (o,0):=by
  rw[G9,hc,aN,show((0:Int) !=0)=false from rfl,bh,lt_eq,hI,nT,dF (by omega),dF (by omega),hth,aN,e2,aN]
 refine⟨sn,ps,st,o,hth,e2,by rw[eu];omega,Ee,hox,akS,λx hx=>?_,λj hj ZD GL=>?_⟩
 ·obtain⟨s,hs,rfl⟩:=List.mem_map.1 hx;obtain⟨⟨i,hi,ei,eo⟩,k1,_⟩:=gy s hs;refine⟨⟨i,hi,o,ei,k1,by rw[eo];exact To,?_⟩,i,hi,ei,eo⟩;show 0≤cond (decide (0<s.fy.length)) ((o.idxOf s.fy:Nat):Int) (o.length:Int)∧cond (decide (0<s.fy.length)) ((o.idxOf s.fy:Nat):Int) (o.length:Int)≤(o.length:Int);cases decide (0<s.fy.length)
  ·rw[bh];omega
  ·rw[bB];have:o.idxOf s.fy≤o.length:=List.idxOf_le_length;omega
 ·have:=(akP m hm e hh l og hz j hj ZD GL m 0 [] [] [] 0 (by omega) (fI _) Tv.nil (by simp;omega) (by simp;omega) (by simp;omega) _ e1).1 (fI _);exact this
theorem akT:∃c:HL,zH m l e=some (c,0)∧c.length≤3145728∧(∀k,k<c.length→Od m e l (hx c k)∧(hx c k).NB=(k:Int))∧Sg 0 c.length c∧∀(j:Nat)(hj:j<l.length),(∀r∈l[j].ed.br,r.af=1)→pS j c=l[j].ed.br:=by
 have hlen:=O2 l;obtain⟨pp,ol,nG,o1,a1,b1,c1,d1,f1,g1,k1,p1⟩:=ZG m hm us e hh hI l hz hc 1 (by omega) (by omega);obtain⟨tk,vH,qi,o2,a2,b2,c2,d2,f2,g2,k2,p2⟩:=ZG m hm us e hh hI l hz hc 2 (by omega) (by omega);obtain⟨sn3,ps3,Oe,o3,a3,b3,c3,d3,f3,g3,k3,p3⟩:=ZG m hm us e hh hI l hz hc 3 (by omega) (by omega);obtain⟨q,rfl⟩:∃q,m=q+4:=⟨m-4,by omega⟩;have r1:=ZE (q+4) hm pp ol nG o1 f1 d1 g1 c1 (q+4) 0 [] (by omega) (fI _) (by rw[ia];omega);have r2:=ZE (q+4) hm tk vH qi o2 f2 d2 g2 c2 (q+4) 0 (nG.map (pR o1)) (by omega) (fI _) (by rw[List.length_map];omega);have r3:=ZE (q+4) hm sn3 ps3 Oe o3 f3 d3 g3 c3 (q+4) 0 (nG.map (pR o1)++qi.map (pR o2)) (by omega) (fI _) (by rw[fg,List.length_map,List.length_map];omega);rw[pa]at r1 r2 r3;rw[List.nil_append]at r1;obtain⟨al,Ef⟩:∃al,al=nG.map (pR o1)++qi.map (pR o2)++Oe.map (pR o3):=⟨_,rfl⟩;have run:Dy (q+4) l e (q+4) ([]:HL) 1=some al:=by
  have ZH:Dx (q+4) (pp,ol,nG) o1 (q+4) ([]:HL) 0=_:=r1;have ZI:Dx (q+4) (tk,vH,qi) o2 (q+4) (nG.map (pR o1)) 0=_:=r2;have r3':Dx (q+4) (sn3,ps3,Oe) o3 (q+4) (nG.map (pR o1)++qi.map (pR o2)) 0=_:=r3;rw[Dy,show decide ((1:Int)≤3)=true from rfl,bB,a1,aN,b1,aN,ZH,aN,show dc ((1:Int)+1)=2 from rfl];rw[Dy,show decide ((2:Int)≤3)=true from rfl,bB,a2,aN,b2,aN,ZI,aN,show dc ((2:Int)+1)=3 from rfl];rw[Dy,show decide ((3:Int)≤3)=true from rfl,bB,a3,aN,b3,aN,r3',aN,show dc ((3:Int)+1)=4 from rfl];rw[Dy,show decide ((4:Int)≤3)=false from rfl,bh,Ef]
 have mem:∀x∈al,Od (q+4) e l x:=λx hx=>by
  rw[Ef]at hx;rcases List.mem_append.1 hx with w|w
  ·rcases List.mem_append.1 w with w|w
   ·exact(k1 x w).1
   ·exact(k2 x w).1
  ·exact(k3 x w).1
 have kb:Kb al:=λx hx=>by obtain⟨i,hi,_,ei,_⟩:=mem x hx;rw[ei];omega
 have all:al.length≤3145728:=by rw[Ef];simp only[fg,List.length_map];omega
 obtain⟨y,ey,sy,gy⟩:=akH (q+4) al (by omega) (by omega) kb;have ly:=sy.len;obtain⟨c,ec,lc,oZ⟩:=akR (q+4) y (by omega) (q+4) 0 y (by omega) (fI _) rfl (λk=>by rw[if_neg (by omega)]);have Oc:Jz (q+4) y (q+4) y 0=some c:=ec;refine⟨c,?_,by omega,λk hk=>?_,λp r h1 h2 h3=>?_,λj hj GL=>?_⟩
 ·rw[zH,hc,aN,show((0:Int) !=0)=false from rfl,bh,hI,nT,run,aN,ey,aN,Oc,aN]
 ·rw[oZ k (by omega)];obtain⟨i,hi,o,w1,w2,w3,w4,w5⟩:=mem (hx y k) (sy.mem (Zx (by omega)));exact⟨⟨i,hi,o,w1,w2,w3,w4,w5⟩,rfl⟩
 ·rw[hk,hk,oZ p (by omega),oZ r (by omega)];exact gy p r h1 h2 (by omega)
 ·rw[a63 j c y (by omega) (λk hk=>by rw[oZ k (by omega)];exact⟨rfl,rfl⟩)];have src:pS j y=pS j al:=by rw[pS,pS];exact congrArg (List.map _) (sy.src (j:Int))
  rw[src,Ef,a62,a62,ZF,ZF,ZF];have no:∀(og:Int)(st:List bI)(o:LP),(∀x∈st.map (pR o),Od (q+4) e l x∧∃(i:Nat)(h:i<l.length),x.dJ=(i:Int)∧l[i].gN=og)→l[j].gN≠og→qj j st=[]:=λog st o hk hQ=>a60 j st (λx hx ex=>by
   obtain⟨_,i,hi,ei,eo⟩:=hk (pR o x) (List.mem_map.2 ⟨x,hx,rfl⟩);have ei':x.source=(i:Int):=ei;have:i=j:=by omega
   subst this;exact hQ eo)
  have okj:1≤l[j].gN∧l[j].gN≤3:=by
   have:=(akJ (q+4) hc).2 _ (List.getElem_mem hj);have h1:=this.1;by_cases w:l[j].gN<1
   ·rw[kq w,bB]at h1;cases h1
   ·rw[eK w,bh]at h1;have:=of_decide_eq_false h1;omega
  by_cases q1:l[j].gN=1
  ·rw[p1 j hj q1 GL,no 2 qi o2 k2 (by omega),no 3 Oe o3 k3 (by omega),List.append_nil,List.append_nil]
  ·by_cases q2:l[j].gN=2
   ·rw[p2 j hj q2 GL,no 1 nG o1 k1 (by omega),no 3 Oe o3 k3 (by omega),List.append_nil,List.nil_append]
   ·rw[p3 j hj (by omega) GL,no 1 nG o1 k1 (by omega),no 2 qi o2 k2 (by omega),List.append_nil,List.nil_append]
end
theorem sml{ρ:Type}{n:Nat}(F:Nat→Int→Option (Sum ρ Unit))(hF:∀kk i:Nat,i<n→F (kk+1) (i:Int)=F kk ((i+1:Nat):Int))(hE:∀kk:Nat,F (kk+1) (n:Int)=some (.inr ())):∀(kk i:Nat),n-i<kk→i≤n→F kk (i:Int)=some (.inr ()):=by
 intro kk
 induction kk with
 |zero=>intro i h;omega
 |succ kk ih=>
  intro i hk hi;by_cases h:i<n
  ·rw[hF kk i h];exact ih (i+1) (by omega) (by omega)
  ·rw[show i=n by omega];exact hE kk
theorem Bu{ρ:Type}{m n:Nat}(F:Nat→Int→Option (Sum ρ Unit))(hn:n<m)(hF:∀kk i:Nat,i<n→F (kk+1) (i:Int)=F kk ((i+1:Nat):Int))(hE:∀kk:Nat,F (kk+1) (n:Int)=some (.inr ())):F m 0=some (.inr ()):=sml F hF hE m 0 (by omega) (fI _)
theorem a64:∀l:List aq,l.length≤cG l
 |[]=>fI _
 |v::r=>by have:=a64 r;have:=qg v;rw[cG,fx];omega
section
variable (m:Nat) (hm:1048576<m)
include hm
theorem akU:∀(k:Nat)(l:List aq),cG l<k→cG l≤1048576→Gq m k l l=some true:=by
 intro k
 induction k with
 |zero=>intro l h;omega
 |succ k ih=>
  intro l hk hz;have hl:=a64 l;have:=Bu (m:=m) (λkk i=>JJ m l l (Gq m k) kk i) (n:=l.length) (by omega) (λkk i h=>by
    have hv:=rK (List.getElem_mem h);have hc:=qg l[i];rw[JJ,dL h,ej h,ej h,lt_eq,hZ l i h];simp only[beq_self_eq_true,Bool.and_self,nT];rw[ih _ (by omega) (by omega),aN,nT,bQ (by omega)]) (λkk=>by rw[JJ,dG (du _)])
  rw[Gq,bne_self_eq_false,bh];rw[this];rfl
theorem sm4(l:List aq)(hz:cG l≤1048576):YC m l l=some true:=akU m hm m l (by omega) hz
theorem a65(d:cR)(hz:zD d≤1048576):JK m d d=some true:=by
 have:=Br d;rw[JK,beq_self_eq_true,beq_self_eq_true,bB,lt_eq,bB,sm4 m hm d.Value (by omega)];rfl
theorem sm5(l:List cR)(hz:rI l≤1048576):NN m l l=some true:=by
 have hl:=nD l;have:=Bu (m:=m) (λkk i=>JL m l l kk i) (n:=l.length) (by omega) (λkk i h=>by
   have hv:=mD (List.getElem_mem h);rw[JL,dL h,ej h,ej h,hZ l i h,a65 m hm _ (by omega),aN,nT,bQ (by omega)]) (λkk=>by rw[JL,dG (du _)])
 rw[NN,bne_self_eq_false,bh];rw[this];rfl
theorem akV:∀(k:Nat)(c:bq),zC c<k→zC c≤1048576→Gr m k c c=some true:=by
 intro k
 induction k with
 |zero=>intro c h;omega
 |succ k ih=>
  intro c hk hz;have hc:=ug c;have hl:=nC c.aa;have:=Bu (m:=m) (λkk i=>JM m c c (Gr m k) kk i) (n:=c.aa.length) (by omega) (λkk i h=>by
    have hv:=mC (List.getElem_mem h);rw[JM,dL h,ej h,ej h,hZ _ i h,ih _ (by omega) (by omega),aN,nT,bQ (by omega)]) (λkk=>by rw[JM,dG (du _)])
  rw[Gr,bne_self_eq_false,beq_self_eq_true,wk,bh,lt_eq,bne_self_eq_false,bh,bh,a65 m hm c.aQ (by omega),aN,wk,bh,lt_eq,bne_self_eq_false,bh,lt_eq,bh,this];rfl
theorem smN(l:List (List a7))(hz:kf l≤1048576):NO m l l=some true:=by
 have hl:=nN l;have:=Bu (m:=m) (λkk i=>JO m l l kk i) (n:=l.length) (by omega) (λkk i h=>by
   have hv:=mN (List.getElem_mem h);have hn:l[i].length≤rJ l[i]:=by
    unfold rJ;have:∀p:List a7,p.length≤(p.map λx=>x.length+1).sum:=by
     intro p
     induction p with
     |nil=>simp
     |cons s p ih=>rw[List.map_cons,List.sum_cons,fx];omega
    have:=this l[i];omega
   have g:gi l (i:Int)=l[i]:=hZ l i h;have i2:=Bu (m:=m) (λkk j=>JN m l l (i:Int) kk j) (n:=l[i].length) (by omega) (λkk j hj=>by
     rw[JN,g,dL hj,ej hj,ej hj,beq_self_eq_true,wk,lt_eq,bh,bQ (by omega)]) (λkk=>by rw[JN,g,dG (du _)])
   rw[JO,dL h,ej h,ej h,bne_self_eq_false,bh,i2,aN,bQ (by omega)];rfl) (λkk=>by rw[JO,dG (du _)])
 rw[NO,bne_self_eq_false,bh];rw[this];rfl
theorem akW(rec:List bw→List bw→Option Bool)(l:List fc)(hz:vC l≤1048576)(hr:∀x∈l,rec x.aa x.aa=some true):NL m rec l l=some true:=by
 have hl:=nS l;have:=Bu (m:=m) (λkk i=>JG m rec l l kk i) (n:=l.length) (by omega) (λkk i h=>by
   rw[JG,dL h,ej h,lt_eq,ej h,lt_eq,lt_eq,hZ l i h];simp only[beq_self_eq_true,Bool.and_self,nT];rw[hr _ (List.getElem_mem h),aN,nT,bQ (by omega)]) (λkk=>by rw[JG,dG (du _)])
 rw[NL,bne_self_eq_false,bh];rw[this];rfl
theorem akX:∀(k:Nat)(l:List bw),mu l<k→mu l≤1048576→Bm m k l l=some true:=by
 intro k
 induction k with
 |zero=>intro l h;omega
 |succ k ih=>
  intro l hk hz;have hl:=nX l;have:=Bu (m:=m) (λkk i=>JI m l l (Bm m k) kk i) (n:=l.length) (by omega) (λkk i h=>by
    have hv:=mX (List.getElem_mem h);have hx:=JW l[i];have hp:=nP l[i].bn;have one:NM m (Bm m k) l[i] l[i]=some true:=by
     have i2:=Bu (m:=m) (λkk j=>JH m (Bm m k) l[i] l[i] kk j) (n:=l[i].bn.length) (by omega) (λkk j hj=>by
       have hv2:=mP (List.getElem_mem hj);have hx2:=GC l[i].bn[j];rw[JH,dL hj,ej hj,ej hj,beq_self_eq_true,wk,lt_eq,bh,hZ _ j hj,akW m hm _ _ (by omega) (λx DS=>by
         have h3:=mS DS;have h4:=GD x;exact ih _ (by omega) (by omega)),aN,wk,bh,bh,bQ (by omega)]) (λkk=>by rw[JH,mB (du _),bh])
     rw[NM,bne_self_eq_false,bne_self_eq_false,bh,lt_eq,beq_self_eq_true,wk,bh,lt_eq,bh,i2];rfl
    rw[JI,dL h,ej h,ej h,hZ l i h,one,aN,nT,bQ (by omega)]) (λkk=>by rw[JI,dG (du _)])
  rw[Bm,bne_self_eq_false,bh];rw[this];rfl
theorem akY:∀(k:Nat)(l:List bp),dZ l<k→dZ l≤1048576→DL m k l l=some true:=by
 intro k
 induction k with
 |zero=>intro l h;omega
 |succ k ih=>
  intro l hk hz;have hl:=nR l;have:=Bu (m:=m) (λkk i=>JP m l l (DL m k) kk i) (n:=l.length) (by omega) (λkk i h=>by
    have hv:=mR (List.getElem_mem h);have hx:=JX l[i];have one:NP m (DL m k) l[i] l[i]=some true:=by
     rw[NP,beq_self_eq_true,bB,show YB m l[i].dE l[i].dE=some true from akX m hm m _ (by omega) (by omega),aN,bB,bB,sm5 m hm _ (by omega),aN,bB,lt_eq,bB,show YD m l[i].aS l[i].aS=some true from akV m hm m _ (by omega) (by omega),aN,bB,bB,smN m hm _ (by omega),aN,bB,bB,ih _ (by omega) (by omega),aN,bB,lt_eq]
    rw[JP,dL h,ej h,ej h,hZ l i h,one,aN,nT,bQ (by omega)]) (λkk=>by rw[JP,dG (du _)])
  rw[DL,bne_self_eq_false,bh];rw[this];rfl
theorem akZ(l:List bp)(hz:dZ l≤1048576):YG m l l=some true:=akY m hm m l (by omega) hz
end
section
variable (m:Nat) (hm:LN<m) (us:3145740<m) (e:js) (l:List fJ)
theorem al0(c:HL)(hc:c.length≤3145728)(hg:∀k,k<c.length→Od m e l (hx c k)∧(hx c k).NB=(k:Int))(hs:Sg 0 c.length c)(hl:l.length≤1048576):∀(kk i:Nat)(v:Int),c.length-i<kk→i≤c.length→(i<c.length→v≤hk c i)→JQ m l e (c,0) kk v (i:Int)=some (.inr ()):=by
 intro kk
 induction kk with
 |zero=>intro i v h;omega
 |succ kk ih=>
  intro i v uf hi hv;rw[JQ];dsimp only;by_cases h:i<c.length
  ·obtain⟨⟨j,hj,o,w1,w2,w3,w4,w5⟩,w6⟩:=hg i h;have SY:=hv h;have w1':hk c i=(j:Int):=w1;rw[dL h,ej h,qX,w1,w6,w2,dF (by omega),eK (by unfold ln;omega),lt_eq,bh,bne_self_eq_false,lt_eq,bh,bne_self_eq_false,lt_eq,bh,cd (by unfold ln;omega),hZ l j hj,w3,aN];dsimp only;rw[bne_self_eq_false,bh,eK (by omega),lt_eq,bh,eK (by unfold ln;omega),lt_eq,bh,bQ (by omega)];exact ih (i+1) _ (by omega) (by omega) (λh'=>by rw[←w1'];exact hs i (i+1) (fI _) (by omega) h')
  ·rw[dG (by omega)]
theorem al1(c:HL)(hc:c.length≤3145728)(j:Nat):∀(kk i:Nat)(acc:List bp),c.length-i<kk→i≤c.length→acc.length≤i→JS m (c,0) (j:Int) kk acc (i:Int)=some (acc++pS j (c.drop i)):=by
 intro kk
 induction kk with
 |zero=>intro i acc h;omega
 |succ kk ih=>
  intro i acc uf hi ha;rw[JS];dsimp only;by_cases h:i<c.length
  ·have e1:hx c i=c[i]:=Bt h;rw[dL h,ej h,qX,e1,ov h,pS,List.filter_cons];cases g:c[i].dJ==(j:Int)with
   |true=>
    rw[bB,cd (by simp only[ln,fx,ia];omega),lt_eq,aN,bQ (by omega),ih (i+1) _ (by omega) (by omega) (by rw[fg,List.length_singleton];omega),if_pos rfl,List.map_cons,tA];rfl
   |false=>
    rw[bh,aN,bQ (by omega),ih (i+1) _ (by omega) (by omega) (by omega),if_neg Bool.false_ne_true]
  ·rw[dG (by omega),yP (by omega)];show _=some (acc++[]);rw[List.append_nil]
theorem al2(j:Nat)(hj:j<l.length)(hl:l[j].ed.br.length≤1048576):∀(kk i:Nat)(b:Bool),l[j].ed.br.length-i<kk→i≤l[j].ed.br.length→∃b',JT m l (j:Int) kk b (i:Int)=some b'∧(b'=true→b=true∧∀r∈l[j].ed.br.drop i,r.af=1):=by
 intro kk
 induction kk with
 |zero=>intro i b h;omega
 |succ kk ih=>
  intro i b uf hi;rw[JT,ej hj,hZ l j hj,lt_eq];by_cases h:i<l[j].ed.br.length
  ·rw[dL h,hJ (λ_=>by unfold ln;omega),lt_eq,hZ _ i h,bQ (by omega)];obtain⟨b',e1,h1⟩:=ih (i+1) (cond b (l[j].ed.br[i].af==1) false) (by omega) (by omega);refine⟨b',e1,λg=>?_⟩;obtain⟨g1,g2⟩:=h1 g;cases b with
   |false=>cases g1
   |true=>
    rw[bB]at g1;refine⟨rfl,λr hr=>?_⟩;rw[ov h]at hr;rcases List.mem_cons.1 hr with rfl|hr
    ·exact eq_of_beq g1
    ·exact g2 r hr
  ·rw[dG (by omega)];exact⟨b,rfl,λg=>⟨g,λr hr=>by rw[yP (by omega)]at hr;cases hr⟩⟩
include us
theorem al3(c:HL)(hc:c.length≤3145728)(hz:iP l≤1048576)(hp:∀(j:Nat)(hj:j<l.length),(∀r∈l[j].ed.br,r.af=1)→pS j c=l[j].ed.br):∀(kk i:Nat),l.length-i<kk→i≤l.length→Gt m l (c,0) kk (i:Int)=some (.inr ()):=by
 have hlen:=nO l;intro kk
 induction kk with
 |zero=>intro i h;omega
 |succ kk ih=>
  intro i uf hi;rw[Gt];by_cases h:i<l.length
  ·have hO:=mO (List.getElem_mem h);have hR:dZ l[i].ed.br+4=zO l[i]:=by unfold zO;omega
   have hn:=nR l[i].ed.br;have e3:=al1 m c hc i m 0 [] (by omega) (fI _) (du _);have ZC:JS m (c,0) (i:Int) m ([]:List bp) 0=some (pS i c):=e3;obtain⟨b,e4,h4⟩:=al2 m l i h (by omega) m 0 true (by omega) (fI _);have e4':JT m l (i:Int) m true 0=some b:=e4;rw[dL h,ZC,aN,e4',aN,hJ (λ_=>by unfold ln;omega),hZ l i h];cases b with
   |true=>
    rw[hp i h (h4 rfl).2,bB,akZ m (by omega) _ (by omega),aN,wk,bB,bh,bQ (by omega)];exact ih (i+1) (by omega) (by omega)
   |false=>
    rw[bh,aN,bh,bh,bQ (by omega)];exact ih (i+1) (by omega) (by omega)
  ·rw[dG (by omega)]
include hm
theorem al4(hz:iP l≤1048576)(hh:AG e=true→∀r:bp,zR r≤1048576→∃b,wT m r (js.mk e.cY)=some b)(ha:NJ m=some true){g:Bool}(hg:JF m l=some g){c:Int}(hc:zp m l=some c):
   Gv m l e=some true:=by
 have hlen:=nO l;rw[Gv,ha,aN,hg,aN];cases g with
 |true=>rfl
 |false=>
  rw[show cond (cond false true (!true)) (some true)=λx:Option Bool=>x from rfl];dsimp only;by_cases h0:c=0
  ·subst h0;cases hI:AG e with
   |false=>
    rw[show zH m l e=some (([]:HL),2)from by rw[zH,hc,aN,show((0:Int) !=0)=false from rfl,bh,hI,nF],aN];rfl
   |true=>
    obtain⟨c,e1,c1,c2,c3,c4⟩:=akT m hm us e (hh hI) hI l hz hc;have r1:=al0 m e l c c1 c2 c3 (by omega) m 0 0 (by omega) (fI _) (λh=>by obtain⟨⟨j,_,_,w,_⟩,_⟩:=c2 0 h;rw[hk,w];omega);have r2:=al3 m us l c c1 hz c4 m 0 (by omega) (fI _);have ZH:JQ m l e (c,0) m 0 0=some (.inr ()):=r1;have ZI:Gt m l (c,0) m 0=some (.inr ()):=r2;rw[e1,aN];dsimp only;rw[show((0:Int) !=0)=false from rfl,bh,ZH,aN];show Option.bind (Gt m l (c,0) m 0) _=_;rw[ZI,aN];rfl
  ·rw[show zH m l e=some (([]:HL),c)from by rw[zH,hc,aN,show(c !=0)=true from bne_iff_ne.2 h0,bB],aN];dsimp only;rw[show(c !=0)=true from bne_iff_ne.2 h0,bB];rfl
end
theorem al5:NJ FU=some true:=by
 show(_:Option Bool)=some true;kernel_rfl
theorem al6(l:List fJ)(e:js)(hb:iP l≤1048576):Gv FU l e=some true:=by
 obtain⟨g,hg⟩:=ako l hb;obtain⟨c,hc⟩:=akh l hb;refine al4 FU (by decide) (by decide) e l hb (λhI r hr=>ak8 r _ hr ?_) al5 hg hc;unfold AG at hI;rw[lt_eq]at hI;show e.cY≤_;by_cases h:e.cY≤1000000000
 ·exact h
 ·rw[eK h]at hI;revert hI;cases decide (0≤e.cY)<;>intro hI<;>cases hI
def Og(x:fJ):Nat:=1+(j0 zR x.ed.br+1)+1
theorem a66:∀l:List fJ,(l.map Og).sum=iP l
 |[]=>rfl
 |v::r=>by
  have h:=a66 r;have e:Og v=zO v:=by unfold Og zO;rw[show j0 zR v.ed.br=dZ v.ed.br+1 from YP _]
  rw[iP,List.map_cons,List.sum_cons,h,e]
theorem al7(l:List fJ)(e:js){p q:Prop}(_:p)(_:q)(hb:j0 Og l+(1+1)+0≤1048576):Gv FU l e=some true:=by
 have h:j0 Og l=iP l+1:=congrArg (· +1) (a66 l);exact al6 l e (by omega)
end Go.Proofs.YtdkddffedangnaaGreatDoor
