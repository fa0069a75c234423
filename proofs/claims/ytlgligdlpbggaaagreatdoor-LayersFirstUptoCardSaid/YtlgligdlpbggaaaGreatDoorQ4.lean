/-
 Sorting, the plain part: exchanges, permutations within a part of a list, order. No program in sight.
-/
import Derived.Test.YtlgligdlpbggaaaGreatDoorQ2
import Derived.Test.YtlgligdlpbggaaaGreatDoorX
import Derived.Test.YtlgligdlpbggaaaGreatDoorWFd
import Derived.KernelRfl
import Derived.Test.YtlgligdlpbggaaaGreatDoorQ3
import Derived.Test.YtlgligdlpbggaaaGreatDoorRU
set_option linter.unusedVariables false
set_option maxRecDepth 100000
namespace Go.Proofs.YtlgligdlpbggaaaGreatDoor
open Go Go.V Go.RowKit
abbrev LP:=List (List a6)
def gx(l:LP)(i:Nat):List a6:=l.getD i default
def sw(l:LP)(i j:Nat):LP:=(l.set i (gx l j)).set j (gx l i)
theorem xZ{l:LP}{i:Nat}(h:i<l.length):gx l i=l[i]:=by simp[gx,List.getD_eq_getElem?_getD,h]
theorem kB(l:LP)(i:Nat):gi l (i:Int)=gx l i:=rfl
theorem rL(l:LP)(i:Nat)(x:List a6):bO l (i:Int) x=l.set i x:=rfl
theorem fV{l:LP}{i:Nat}(h:i<l.length):gx l i∈l:=by rw[xZ h];exact List.getElem_mem h
theorem jU(l:LP)(i j:Nat):(sw l i j).length=l.length:=by simp[sw]
theorem afP{l:LP}{i j:Nat}(hi:i<l.length)(hj:j<l.length):(sw l i j).Perm l:=by
 rw[sw,xZ hi,xZ hj];exact List.set_set_perm hi hj
theorem sT{l:LP}{i j:Nat}(hi:i<l.length)(hj:j<l.length)(k:Nat):gx (sw l i j) k=if k=j then gx l i else if k=i then gx l j else gx l k:=by
 simp only[gx,sw,List.getD_eq_getElem?_getD,List.getElem?_set,List.length_set];by_cases h1:j=k
 ·subst h1;simp[hj]
 ·by_cases h2:i=k
  ·subst h2;simp[hi,h1,Ne.symm h1]
  ·simp[h1,h2,Ne.symm h1,Ne.symm h2]
/-- A permutation within [a, b). -/
def cE(a b:Nat)(l l':LP):Prop:=l'.length=l.length∧l'.Perm l∧∀k,k<a∨b≤k→gx l' k=gx l k
theorem cE.rfl'{a b:Nat}(l:LP):cE a b l l:=⟨rfl,List.Perm.refl _,λ_ _=>rfl⟩
theorem cE.tr{a b:Nat}{l1 l2 l3:LP}(h:cE a b l1 l2)(h':cE a b l2 l3):cE a b l1 l3:=⟨h'.1.trans h.1,h'.2.1.trans h.2.1,λk hk=>(h'.2.2 k hk).trans (h.2.2 k hk)⟩
theorem cE.up{a b a' b':Nat}{l l':LP}(h:cE a b l l')(ha:a'≤a)(hb:b≤b'):cE a' b' l l':=⟨h.1,h.2.1,λk hk=>h.2.2 k (by omega)⟩
theorem cE.sw{a b i j:Nat}{l:LP}(hi:i<l.length)(hj:j<l.length)(h1:a≤i)(h2:i<b)(h3:a≤j)(h4:j<b):cE a b l (Go.Proofs.YtlgligdlpbggaaaGreatDoor.sw l i j):=
 ⟨jU ..,afP hi hj,λk hk=>by rw[sT hi hj,if_neg (by omega),if_neg (by omega)]⟩
theorem a38{l l':LP}(h:l'.length=l.length)(hg:∀k,k<l.length→gx l' k=gx l k):l'=l:=by
 apply List.ext_getElem h;intro i h1 h2;have:=hg i h2;rwa [xZ h1,xZ h2]at this
theorem Qf(l:LP)(a k:Nat):gx (l.drop a) k=gx l (a+k):=by simp[gx,List.getD_eq_getElem?_getD,List.getElem?_drop]
theorem Qg(l:LP)(b k:Nat)(h:k<b):gx (l.take b) k=gx l k:=by simp[gx,List.getD_eq_getElem?_getD,h]
theorem cE.seg{a b:Nat}{l l':LP}(h:cE a b l l')(nJ:a≤b)(hb:b≤l.length):((l'.take b).drop a).Perm ((l.take b).drop a):=by
 have e1:∀x:LP,x=x.take a++((x.take b).drop a++x.drop b):=λx=>by
  have h1:x.take b=x.take a++(x.take b).drop a:=by
   have:=List.take_append_drop a (x.take b);rw[List.take_take,Nat.min_eq_left nJ]at this;exact this.symm
  rw[←yA,←h1,List.take_append_drop]
 have h1:l'.take a=l.take a:=a38 (by simp[h.1]) (λk hk=>by
  have:k<a:=by simp at hk;omega
  rw[Qg _ _ _ this,Qg _ _ _ this];exact h.2.2 k (.inl this))
 have h2:l'.drop b=l.drop b:=a38 (by simp[h.1]) (λk hk=>by rw[Qf,Qf];exact h.2.2 _ (.inr (by omega)));have hp:=h.2.1;rw[e1 l',e1 l,h1,h2]at hp;have hp:=(List.perm_append_left_iff _).1 hp;exact(List.perm_append_right_iff _).1 hp
/-- What stands within the part stood within the part. -/
theorem cE.was{a b:Nat}{l l':LP}(h:cE a b l l')(hb:b≤l.length){k:Nat}(h1:a≤k)(h2:k<b):∃q,a≤q∧q<b∧gx l' k=gx l q:=by
 have hs:=h.seg (by omega) hb;have hl:((l'.take b).drop a).length=b-a:=by simp[h.1];omega
 have hm:gx l' k∈(l'.take b).drop a:=by
  have:=fV (l:=(l'.take b).drop a) (i:=k-a) (by omega);rw[Qf,Qg _ _ _ (by omega),show a+(k-a)=k by omega]at this;exact this
 have Ik:=hs.mem_iff.1 hm;obtain⟨q,hq,e⟩:=List.mem_iff_getElem.1 Ik;have Yo:q<b-a:=by simp at hq;omega
 refine⟨a+q,by omega,by omega,?_⟩;rw[←e,←xZ hq,Qf,Qg _ _ _ (by omega)]
theorem cE.all{a b:Nat}{l l':LP}(h:cE a b l l'){P:List a6→Prop}(hA:∀x∈l,P x):∀x∈l',P x:=λx hx=>hA x ((h.2.1.mem_iff).1 hx)
/-- A strict weak order on what 'P' tells. -/
structure I8(P:List a6→Prop)(lt:List a6→List a6→Bool):Prop where
 ir:∀x,P x→lt x x=false
 EY:∀x y,P x→P y→lt x y=true→lt y x=false
 nt:∀x y z,P x→P y→P z→lt x y=false→lt y z=false→lt x z=false
/-- In order within [a, b). -/
def kC(lt:List a6→List a6→Bool)(a b:Nat)(l:LP):Prop:=∀i j,a≤i→i<j→j<b→lt (gx l j) (gx l i)=false
theorem kC.cut{lt:List a6→List a6→Bool}{a b a' b':Nat}{l:LP}(h:kC lt a b l)(ha:a≤a')(hb:b'≤b):kC lt a' b' l:=λi j h1 h2 h3=>h i j (by omega) h2 (by omega)
theorem kC.out{lt:List a6→List a6→Bool}{a b c d:Nat}{l l':LP}(h:kC lt a b l)(hp:cE c d l l')(hd:d≤a∨b≤c):kC lt a b l':=λi j h1 h2 h3=>by
 rw[hp.2.2 i (by omega),hp.2.2 j (by omega)];exact h i j h1 h2 h3
theorem lX{i:Nat}(h:0<i)(h':i<4611686018427387904):J ((i:Int)-1)=((i-1:Nat):Int):=by rw[nn (by omega) (by omega)];omega
theorem vo{i j:Nat}(h:j≤i)(h':i<4611686018427387904):J ((i:Int)-(j:Int))=((i-j:Nat):Int):=by rw[nn (by omega) (by omega)];omega
theorem Af{i j:Nat}(h:i+j<4611686018427387904):J ((i:Int)+(j:Int))=((i+j:Nat):Int):=by rw[nn (by omega) (by omega)];omega
theorem iO{β:Type}{c:Bool}{p:Prop}[Decidable p]{k:Option β}(h:c=true→p):aH (c=true→p) k=k:=bS h
abbrev Lt(cf:List a6→List a6→Int)(x y:List a6):Bool:=decide (cf x y<0)
abbrev Cm(m:Nat)(sn:Mi)(ps:LP)(st:List bN)(P:List a6→Prop)(cf:List a6→List a6→Int):Prop:=∀a b,P a→P b→o5 m a b sn ps st=some (cf a b)
abbrev dy:Nat:=4611686018427387904
section
variable (m:Nat) {sn:Mi} {ps:LP} {st:List bN} {P:List a6→Prop} {cf:List a6→List a6→Int} (hc:Cm m sn ps st P cf) (ho:I8 P (Lt cf))
def Ins(lt:List a6→List a6→Bool)(a j i:Nat)(l:LP):Prop:=∀p q,a≤p→p<q→q≤i→q≠j→lt (gx l q) (gx l p)=false
include hc ho
theorem afQ(a i:Nat):∀(j kk:Nat)(l:LP),j-a<kk→a≤j→j≤i→i<l.length→l.length<dy→(∀x∈l,P x)→
   ∃l',ED m (a:Int) sn ps st kk l (j:Int)=some l'∧cE a (i+1) l l'∧(Ins (Lt cf) a j i l→kC (Lt cf) a (i+1) l'):=by
 intro j
 induction j with
 |zero=>
  intro kk l hk ha hj hi hl hA;obtain⟨kk,rfl⟩:∃q,kk=q+1:=⟨kk-1,by omega⟩;have hd:decide ((a:Int)<((0:Nat):Int))=false:=dt (by omega);rw[ED,iO (λh=>by rw[hd]at h;cases h),iO (λh=>by rw[hd]at h;cases h)];simp only[hd,be,aW,lt_eq];exact⟨l,rfl,cE.rfl' _,λh p q h1 h2 h3=>h p q h1 h2 (by omega) (by omega)⟩
 |succ j ih=>
  intro kk l hk ha hj hi hl hA;obtain⟨kk,rfl⟩:∃q,kk=q+1:=⟨kk-1,by omega⟩;rw[ED];by_cases hd:a<j+1
  ·have gU:decide ((a:Int)<((j+1:Nat):Int))=true:=ew (by omega);have hw:J (((j+1:Nat):Int)-1)=(j:Int):=by rw[lX (by omega) (by unfold dy at hl;omega)];rfl
   have hx:=fV (l:=l) (i:=j+1) (by omega);have hy:=fV (l:=l) (i:=j) (by omega);rw[iO (λ_=>by unfold ln;omega),iO (λ_=>by rw[hw];unfold ln;omega),gU,bo,hw,kB,kB,hc _ _ (hA _ hx) (hA _ hy),aW,lt_eq,bo];cases dF:decide (cf (gx l (j+1)) (gx l j)<0)
   ·rw[be];refine⟨l,rfl,cE.rfl' _,λh p q h1 h2 h3=>?_⟩;by_cases hq:q=j+1
    ·subst hq;by_cases hp:p=j
     ·subst hp;exact dF
     ·exact ho.nt _ _ _ (hA _ hx) (hA _ hy) (hA _ (fV (by omega))) dF (h p j h1 (by omega) (by omega) (by omega))
    ·exact h p q h1 h2 (by omega) hq
   ·have hs:(bO (bO l ((j+1:Nat):Int) (gx l j)) (j:Int) (gx l (j+1)))=sw l (j+1) j:=rfl;rw[bo,bS (by unfold ln;omega),bS (by unfold ln;omega),lt_eq,bS (by unfold ln;rw[rL,List.length_set];omega),lt_eq,hs];have hp:=cE.sw (a:=a) (b:=i+1) (i:=j+1) (j:=j) (l:=l) (by omega) (by omega) (by omega) (by omega) (by omega) (by omega);obtain⟨l',e,h1,h2⟩:=ih kk (sw l (j+1) j) (by omega) (by omega) (by omega) (by rw[jU];omega) (by rw[jU];exact hl) (hp.all hA);refine⟨l',e,hp.tr h1,λh=>h2 ?_⟩;intro p q g1 g2 g3 g4;rw[sT (by omega) (by omega),sT (by omega) (by omega),if_neg g4];by_cases q1:q=j+1
    ·subst q1;rw[if_pos rfl];by_cases p1:p=j
     ·subst p1;rw[if_pos rfl];exact ho.EY _ _ (hA _ hx) (hA _ hy) dF
     ·rw[if_neg p1,if_neg (by omega)];exact h p j g1 (by omega) (by omega) (by omega)
    ·rw[if_neg q1];by_cases p1:p=j
     ·rw[if_pos p1];exact h (j+1) q (by omega) (by omega) g3 q1
     ·rw[if_neg p1];by_cases p2:p=j+1
      ·rw[if_pos p2];exact h j q (by omega) (by omega) g3 q1
      ·rw[if_neg p2];exact h p q g1 g2 g3 q1
  ·have gU:decide ((a:Int)<((j+1:Nat):Int))=false:=dt (by omega);rw[iO (λh=>by rw[gU]at h;cases h),iO (λh=>by rw[gU]at h;cases h)];simp only[gU,be,aW,lt_eq];exact⟨l,rfl,cE.rfl' _,λh p q h1 h2 h3=>h p q h1 h2 (by omega) (by omega)⟩
theorem afR(a b:Nat):∀(kk i:Nat)(l:LP),b-i<kk→a<i→b≤l.length→l.length<dy→l.length<m→(∀x∈l,P x)→kC (Lt cf) a i l→
   ∃l',Hk m (a:Int) (b:Int) sn ps st kk l (i:Int)=some l'∧cE a b l l'∧kC (Lt cf) a b l':=by
 intro kk
 induction kk with
 |zero=>intro i l h;omega
 |succ kk ih=>
  intro i l hk ha hb hl hm hA hs;rw[Hk];by_cases hi:i<b
  ·have hd:decide ((i:Int)<(b:Int))=true:=ew (by omega);obtain⟨l1,e,h1,h2⟩:=afQ m hc ho a i i m l (by omega) (by omega) (dc _) (by omega) hl hA;rw[hd,bo,e,aW,cq (by unfold dy at hl;omega)];have hs':=h2 (λp q g1 g2 g3 g4=>hs p q g1 g2 (by omega));obtain⟨l',e',h3,h4⟩:=ih (i+1) l1 (by omega) (by omega) (by rw[h1.1];exact hb) (by rw[h1.1];exact hl) (by rw[h1.1];exact hm) (h1.all hA) hs';exact⟨l',e',(h1.up (dc _) (by omega)).tr h3,h4⟩
  ·have hd:decide ((i:Int)<(b:Int))=false:=dt (by omega);rw[hd,be];exact⟨l,rfl,cE.rfl' _,hs.cut (dc _) (by omega)⟩
theorem afS(a b:Nat)(l:LP)(nJ:a≤b)(hb:b≤l.length)(hl:l.length<dy)(hm:l.length+1<m)(hA:∀x∈l,P x):
   ∃l',Hl m l (a:Int) (b:Int) sn ps st=some l'∧cE a b l l'∧kC (Lt cf) a b l':=by
 rw[Hl,cq (by unfold dy at hl;omega)];exact afR m hc ho a b m (a+1) l (by omega) (by omega) hb hl (by omega) hA (λi j h1 h2 h3=>by omega)
end
theorem afT(m a b:Nat):∀(kk i j:Nat)(l:LP),j+1-i<kk→a≤i→j<b→b≤l.length→l.length<dy→
   ∃l',Hs m kk l (i:Int) (j:Int)=some l'∧cE a b l l':=by
 intro kk
 induction kk with
 |zero=>intro i j l h;omega
 |succ kk ih=>
  intro i j l hk ha hj hb hl;rw[Hs];by_cases hi:i<j
  ·have hd:decide ((i:Int)<(j:Int))=true:=ew (by omega);have hs:(bO (bO l (i:Int) (gi l (j:Int))) (j:Int) (gi l (i:Int)))=sw l i j:=rfl;rw[hd,bo,bS (by unfold ln;omega),bS (by unfold ln;omega),lt_eq,bS (by unfold ln;rw[rL,List.length_set];omega),lt_eq,hs,cq (by unfold dy at hl;omega),lX (by omega) (by unfold dy at hl;omega)];have hp:=cE.sw (a:=a) (b:=b) (i:=i) (j:=j) (l:=l) (by omega) (by omega) (by omega) (by omega) (by omega) (by omega);obtain⟨l',e,h1⟩:=ih (i+1) (j-1) (sw l i j) (by omega) (by omega) (by omega) (by rw[jU];exact hb) (by rw[jU];exact hl);exact⟨l',e,hp.tr h1⟩
  ·have hd:decide ((i:Int)<(j:Int))=false:=dt (by omega);rw[hd,be];exact⟨l,rfl,cE.rfl' _⟩
theorem afU(m a b:Nat)(sn:Mi)(ps:LP)(st:List bN)(l:LP)(nJ:a<b)(hb:b≤l.length)(hl:l.length<dy)(hm:l.length+1<m):
   ∃l',EI m l (a:Int) (b:Int) sn ps st=some l'∧cE a b l l':=by
 rw[EI,lX (by omega) (by unfold dy at hl;omega)];exact afT m a b m a (b-1) l (by omega) (dc _) (by omega) hb hl
section
variable (m:Nat) {sn:Mi} {ps:LP} {st:List bN} {P:List a6→Prop} {cf:List a6→List a6→Int} (hc:Cm m sn ps st P cf)
include hc
theorem Xe{l:LP}(hA:∀x∈l,P x){x y:Nat}(s:Int)(hx:x<l.length)(hy:y<l.length):
   ∃(p q:Nat)(s':Int),C3 m l (x:Int) (y:Int) s sn ps st=some ((p:Int),(q:Int),s',l)∧(p=x∧q=y∨p=y∧q=x):=by
 rw[C3,gV hy,gV hx,kB,kB,hc _ _ (hA _ (fV hy)) (hA _ (fV hx)),aW];cases decide (cf (gx l y) (gx l x)<0)
 ·exact⟨x,y,s,rfl,.inl ⟨rfl,rfl⟩⟩
 ·exact⟨y,x,_,rfl,.inr ⟨rfl,rfl⟩⟩
theorem Xf{l:LP}(hA:∀x∈l,P x){x y z:Nat}(s:Int)(hx:x<l.length)(hy:y<l.length)(hz:z<l.length):
   ∃(r:Nat)(s':Int),zN m l (x:Int) (y:Int) (z:Int) s sn ps st=some ((r:Int),s',l)∧(r=x∨r=y∨r=z):=by
 obtain⟨p1,q1,s1,e1,h1⟩:=Xe m hc hA s hx hy;obtain⟨p2,q2,s2,e2,h2⟩:=Xe m hc hA (x:=q1) (y:=z) s1 (by omega) hz;obtain⟨p3,q3,s3,e3,h3⟩:=Xe m hc hA (x:=p1) (y:=p2) s2 (by omega) (by omega);refine⟨q3,s3,?_,by omega⟩;rw[zN,e1,aW,e2,aW,e3,aW]
theorem Xg{l:LP}(hA:∀x∈l,P x){x:Nat}(s:Int)(hx:0<x)(hy:x+1<l.length)(hl:l.length<dy):
   ∃(r:Nat)(s':Int),C4 m l (x:Int) s sn ps st=some ((r:Int),s',l)∧x-1≤r∧r≤x+1:=by
 obtain⟨r,s',e,h⟩:=Xf m hc hA (x:=x-1) (y:=x) (z:=x+1) s (by omega) (by omega) hy;refine⟨r,s',?_,by omega⟩;rw[C4,lX hx (by unfold dy at hl;omega),cq (by unfold dy at hl;omega),e,aW]
omit hc in
theorem LO{a b:Nat}(h:a≤b)(hb:b<dy)(c:Nat)(h3:c≤3):J (J (Int.tdiv (J ((b:Int)-(a:Int))) 4)*(c:Int))=(((b-a)/4*c:Nat):Int):=by
 have hq:Int.tdiv (((b-a:Nat)):Int) 4=(((b-a)/4:Nat):Int):=rfl;have:(b-a)/4*c≤b-a:=by
  have:=Nat.mul_le_mul_left ((b-a)/4) h3;omega
 rw[vo h (by unfold dy at hb;omega),hq,nn (x:=(((b-a)/4:Nat):Int)) (by omega) (by unfold dy at hb;omega),nn (by
   have:(0:Int)≤(((b-a)/4:Nat):Int)*(c:Int):=Int.mul_nonneg (by omega) (by omega);omega) (by
   have e:(((b-a)/4:Nat):Int)*(c:Int)=(((b-a)/4*c:Nat):Int):=(Int.natCast_mul ..).symm;rw[e];unfold dy at hb;omega)]
 exact(Int.natCast_mul ..).symm
theorem afV{l:LP}(hA:∀x∈l,P x){a b:Nat}(h:a+13≤b)(hb:b≤l.length)(hl:l.length<dy):
   ∃(r:Nat)(s:Int),Hr m l (a:Int) (b:Int) sn ps st=some ((r:Int),s,l)∧a≤r∧r<b:=by
 have hB:b<dy:=by omega
 have q1:=LO (a:=a) (b:=b) (by omega) hB 1 (by omega);have q2:=LO (a:=a) (b:=b) (by omega) hB 2 (by omega);have q3:=LO (a:=a) (b:=b) (by omega) hB 3 (by omega);have ad:∀c,c≤3→J ((a:Int)+(((b-a)/4*c:Nat):Int))=((a+(b-a)/4*c:Nat):Int):=λc hc=>Af (by
  have:=Nat.mul_le_mul_left ((b-a)/4) hc;unfold dy at hB;omega)
 rw[Hr];rw[show((1:Int))=((1:Nat):Int)from rfl,show((2:Int))=((2:Nat):Int)from rfl,show((3:Int))=((3:Nat):Int)from rfl,q1,q2,q3];rw[lt_eq,lt_eq,lt_eq,ad 1 (by omega),ad 2 (by omega),ad 3 (by omega),vo (by omega) (by unfold dy at hB;omega),show decide ((8:Int)≤((b-a:Nat):Int))=true from ew (by omega),bo];have fin:∀(r:Nat)(s:Int),a≤r→r<b→∃(r':Nat)(s':Int),(Option.bind (some ((r:Int),s,l)) λ(fy:Int×Int×LP)=>cond (fy.2.1==0) (some (fy.1,((1:Nat):Int),fy.2.2)) (cond (fy.2.1==12) (some (fy.1,((2:Nat):Int),fy.2.2)) (some (fy.1,0,fy.2.2))))=some ((r':Int),s',l)∧a≤r'∧r'<b:=by
  intro r s h1 h2;rw[aW];show∃(r':Nat)(s':Int),cond (s==0) (some ((r:Int),((1:Nat):Int),l)) (cond (s==12) (some ((r:Int),((2:Nat):Int),l)) (some ((r:Int),0,l)))=_∧_;cases s==0
  ·cases s==12
   ·exact⟨r,_,rfl,h1,h2⟩
   ·exact⟨r,_,rfl,h1,h2⟩
  ·exact⟨r,_,rfl,h1,h2⟩
 cases decide ((50:Int)≤((b-a:Nat):Int))
 ·rw[be,aW];obtain⟨r,s,e,h1⟩:=Xf m hc hA (x:=a+(b-a)/4*1) (y:=a+(b-a)/4*2) (z:=a+(b-a)/4*3) 0 (by omega) (by omega) (by omega);show∃(r':Nat)(s':Int),Option.bind (Option.bind (zN m l _ _ _ 0 sn ps st) _) _=_∧_;rw[e,aW];exact fin r s (by omega) (by omega)
 ·rw[bo];obtain⟨r1,s1,e1,h1⟩:=Xg m hc hA (x:=a+(b-a)/4*1) 0 (by omega) (by omega) hl;obtain⟨r2,s2,e2,h2⟩:=Xg m hc hA (x:=a+(b-a)/4*2) s1 (by omega) (by omega) hl;obtain⟨r3,s3,e3,h3⟩:=Xg m hc hA (x:=a+(b-a)/4*3) s2 (by omega) (by omega) hl;rw[e1,aW,e2,aW,e3,aW,aW];obtain⟨r,s,e,h4⟩:=Xf m hc hA (x:=r1) (y:=r2) (z:=r3) s3 (by omega) (by omega) (by omega);show∃(r':Nat)(s':Int),Option.bind (Option.bind (zN m l _ _ _ s3 sn ps st) _) _=_∧_;rw[e,aW];exact fin r s (by omega) (by omega)
end
def TB:a6:=[0,1,2,2,3,3,3,3,4,4,4,4,4,4,4,4]++List.replicate 16 5++List.replicate 32 6++List.replicate 64 7++List.replicate 128 8
def tb(n:Nat):Nat:=(bQ TB (n:Int)).toNat
theorem afW:((List.range 256).all λn=>decide (bQ TB (n:Int)=(tb n:Int))&&decide (tb n≤8)&&(n==0||decide (2^(tb n)≤2*n)))=true:=by kernel_rfl
theorem EZ{n:Nat}(h:n<256):bQ TB (n:Int)=(tb n:Int)∧tb n≤8∧(0<n→2^(tb n)≤2*n):=by
 have:=List.all_eq_true.1 afW n (List.mem_range.2 h);simp only[Bool.and_eq_true,decide_eq_true_eq,Bool.or_eq_true,beq_iff_eq]at this;exact⟨this.1.1,this.1.2,λh=>this.2.resolve_left (by omega)⟩
def LQ(z:Int×Int):Option Int:=aH (0≤cU z.1∧cU z.1<ln TB)<|lt (bQ TB (cU z.1)) λux=>some (J (z.2+J ux))
theorem afX(x:Int):P0 x=Option.bind (cond (decide (4294967296≤x)) (some (Int.fdiv x (2^32),32)) (some (x,0))) λ(z3:Int×Int)=>
  Option.bind (cond (decide (65536≤z3.1)) (some (Int.fdiv z3.1 (2^16),J (z3.2+16))) (some (z3.1,z3.2))) λ(cW:Int×Int)=>
  Option.bind (cond (decide (256≤cW.1)) (some (Int.fdiv cW.1 (2^8),J (cW.2+8))) (some (cW.1,cW.2))) LQ:=by kernel_rfl
theorem Xh{z s:Nat}(h:z<256)(hs:s≤16):LQ ((z:Int),(s:Int))=some ((s+tb z:Nat):Int):=by
 obtain⟨h1,h2,_⟩:=EZ h;have hl:ln TB=((256:Nat):Int):=rfl;rw[LQ,hl,a5P (x:=(z:Int)) (by omega) (by omega),bS (by omega),lt_eq,h1,nn (x:=(tb z:Int)) (by omega) (by omega),nn (by omega) (by omega)];rfl
theorem fd8(n:Nat):Int.fdiv (n:Int) (2^8)=((n/256:Nat):Int):=by
 rw[show((2:Int)^8)=256 from by decide,Int.fdiv_eq_ediv_of_nonneg _ (by omega)];omega
theorem afY(n:Nat):Int.fdiv (n:Int) (2^16)=((n/65536:Nat):Int):=by
 rw[show((2:Int)^16)=65536 from by decide,Int.fdiv_eq_ediv_of_nonneg _ (by omega)];omega
theorem a39{n:Nat}(h:n<16777216):∃y:Nat,Hi (n:Int)=some (y:Int)∧(0<n→2^y≤2*n)∧y≤24:=by
 rw[Hi,afX,show decide ((4294967296:Int)≤(n:Int))=false from dt (by omega),be,aW];by_cases h1:n<65536
 ·rw[show decide ((65536:Int)≤((n:Int),(0:Int)).1)=false from dt (by show¬(65536:Int)≤(n:Int);omega),be,aW];by_cases h2:n<256
  ·rw[show decide ((256:Int)≤(((n:Int),(0:Int)).1,((n:Int),(0:Int)).2).1)=false from dt (by show¬(256:Int)≤(n:Int);omega),be,aW];refine⟨tb n,?_,(EZ h2).2.2,by have:=(EZ h2).2.1;omega⟩;show Option.bind (LQ ((n:Int),((0:Nat):Int))) _=_;rw[Xh h2 (by omega),Nat.zero_add];rfl
  ·rw[show decide ((256:Int)≤(((n:Int),(0:Int)).1,((n:Int),(0:Int)).2).1)=true from ew (by show(256:Int)≤(n:Int);omega),bo,aW];have h3:n/256<256:=by omega
   refine⟨8+tb (n/256),?_,λ_=>?_,by have:=(EZ h3).2.1;omega⟩
   ·have e:(Int.fdiv (((n:Int),(0:Int)).1,((n:Int),(0:Int)).2).1 (2^8),J ((((n:Int),(0:Int)).1,((n:Int),(0:Int)).2).2+8))=(((n/256:Nat):Int),((8:Nat):Int)):=by
     show(Int.fdiv (n:Int) (2^8),J (0+8))=_;rw[fd8];rfl
    rw[e,Xh h3 (by omega)];rfl
   ·have:=(EZ h3).2.2 (by omega);rw[Nat.pow_add];omega
 ·rw[show decide ((65536:Int)≤((n:Int),(0:Int)).1)=true from ew (by show(65536:Int)≤(n:Int);omega),bo,aW];have h3:n/65536<256:=by omega
  have e:(Int.fdiv ((n:Int),(0:Int)).1 (2^16),J (((n:Int),(0:Int)).2+16))=(((n/65536:Nat):Int),((16:Nat):Int)):=by
   show(Int.fdiv (n:Int) (2^16),J (0+16))=_;rw[afY];rfl
  rw[e,show decide ((256:Int)≤((((n/65536:Nat):Int),((16:Nat):Int)):Int×Int).1)=false from dt (by show¬(256:Int)≤((n/65536:Nat):Int);omega),be,aW];refine⟨16+tb (n/65536),?_,λ_=>?_,by have:=(EZ h3).2.1;omega⟩
  ·show Option.bind (LQ (((n/65536:Nat):Int),((16:Nat):Int))) _=_;rw[Xh h3 (by omega)];rfl
  ·have:=(EZ h3).2.2 (by omega);rw[Nat.pow_add];omega
theorem afZ{n:Nat}(h0:0<n)(h:n<16777216):∃p:Nat,Lk (n:Int)=some (p:Int)∧0<p∧p≤2*n:=by
 obtain⟨y,e,h1,h2⟩:=a39 h;have h3:=h1 h0;refine⟨2^y,?_,Nat.pow_pos (by omega),h3⟩;rw[Lk,AH (x:=(n:Int)) (by omega) (by omega),e,aW,bS (by omega),show((y:Int)).toNat=y from rfl,show Nat.min y 64=y from Nat.min_eq_left (by omega)];have e2:(1:Int)*2^y=((2^y:Nat):Int):=by rw[Int.one_mul,Int.natCast_pow];rfl
 rw[e2];clear e2 h1 e;generalize 2^y=z at h3⊢;rw[AH (by omega) (by omega)]
theorem ag0(x:Int){p:Nat}(h:p<18446744073709551616):∃r:Nat,fu .and .u64 x (p:Int)=(r:Int)∧r≤p:=by
 have hb:(BitVec.ofInt 64 (p:Int)).toNat=p:=by
  rw[show BitVec.ofInt 64 (p:Int)=BitVec.ofNat 64 p from BitVec.ofInt_natCast ..,BitVec.toNat_ofNat];exact Nat.mod_eq_of_lt (by omega)
 have hl:(BitVec.ofInt 64 x&&&BitVec.ofInt 64 (p:Int)).toNat≤p:=by
  rw[BitVec.toNat_and,hb];exact Nat.and_le_right
 refine⟨(BitVec.ofInt 64 x&&&BitVec.ofInt 64 (p:Int)).toNat,?_,hl⟩;show cF (((BitVec.ofInt 64 x&&&BitVec.ofInt 64 (p:Int)).toNat:Int))=_;exact AH (by omega) (by omega)
theorem ag1(m:Nat){a b p:Nat}(h:a+8≤b)(aiX:b<16777216)(hp0:0<p)(hp:p≤2*(b-a)):∀(kk i:Nat)(l:LP)(r:Int),a+(b-a)/4*2+2-i<kk→a≤i→b≤l.length→
   ∃l',Hq m (a:Int) (b:Int) (p:Int) kk l (i:Int) r=some l'∧cE a b l l':=by
 intro kk
 induction kk with
 |zero=>intro i l r h;omega
 |succ kk ih=>
  intro i l r hk ha hb;have q2:=LO (a:=a) (b:=b) (by omega) (by unfold dy;omega) 2 (by omega);rw[Hq,show((2:Int))=((2:Nat):Int)from rfl,q2,lt_eq,Af (by omega),cq (by omega),lt_eq,vo (by omega) (by omega)];by_cases hi:i≤a+(b-a)/4*2+1
  ·rw[show decide ((i:Int)≤((a+(b-a)/4*2+1:Nat):Int))=true from ew (by omega),bo,lt_eq];have e1:cF ((p:Int)-1)=((p-1:Nat):Int):=by rw[AH (by omega) (by omega)];omega
   obtain⟨r2,e2,h2⟩:=ag0 (Ll r).1 (p:=p-1) (by omega);rw[e1,e2,lt_eq,nn (x:=(r2:Int)) (by omega) (by omega)];have hz:∃z:Nat,z<b-a∧cond (decide (((b-a:Nat):Int)≤(r2:Int))) (some (J ((r2:Int)-((b-a:Nat):Int)))) (some (r2:Int))=some (z:Int):=by
    by_cases hd:b-a≤r2
    ·exact⟨r2-(b-a),by omega,by rw[show decide (((b-a:Nat):Int)≤(r2:Int))=true from ew (by omega),bo,vo hd (by omega)]⟩
    ·exact⟨r2,by omega,by rw[show decide (((b-a:Nat):Int)≤(r2:Int))=false from dt (by omega),be]⟩
   obtain⟨z,rR,I9⟩:=hz;have hs:(bO (bO l (i:Int) (gi l ((a+z:Nat):Int))) ((a+z:Nat):Int) (gi l (i:Int)))=sw l i (a+z):=rfl;rw[I9,aW,Af (by omega),bS (by unfold ln;omega),bS (by unfold ln;omega),lt_eq,bS (by unfold ln;rw[rL,List.length_set];omega),lt_eq,hs];have LR:=cE.sw (a:=a) (b:=b) (i:=i) (j:=a+z) (l:=l) (by omega) (by omega) (by omega) (by omega) (by omega) (by omega);obtain⟨l',e,h3⟩:=ih (i+1) (sw l i (a+z)) (Ll r).2 (by omega) (by omega) (by rw[jU];exact hb);rw[cq (by omega)];exact⟨l',e,LR.tr h3⟩
  ·rw[show decide ((i:Int)≤((a+(b-a)/4*2+1:Nat):Int))=false from dt (by omega),be];exact⟨l,rfl,cE.rfl' _⟩
theorem ag2(m:Nat){a b:Nat}(sn:Mi)(ps:LP)(st:List bN)(l:LP)(h:a+8≤b)(hb:b≤l.length)(hl:l.length<16777216)(hm:l.length+2<m):
   ∃l',EH m l (a:Int) (b:Int) sn ps st=some l'∧cE a b l l':=by
 have q2:=LO (a:=a) (b:=b) (by omega) (by unfold dy;omega) 2 (by omega);obtain⟨p,e,h1,h2⟩:=afZ (n:=b-a) (by omega) (by omega);rw[EH,show((2:Int))=((2:Nat):Int)from rfl,q2,vo (by omega) (by omega),show decide ((8:Int)≤((b-a:Nat):Int))=true from ew (by omega),bo,e,aW,lt_eq,Af (by omega),lX (by omega) (by omega)];exact ag1 m h (by omega) h1 h2 m _ l _ (by omega) (by omega) hb
/-- Nothing of [a, b) is less than what stands ahead of it. -/
def Ag(lt:List a6→List a6→Bool)(a b:Nat)(l:LP):Prop:=0<a→∀k,a≤k→k<b→lt (gx l k) (gx l (a-1))=false
theorem Ag.pm{lt:List a6→List a6→Bool}{a b c d:Nat}{l l':LP}(h:Ag lt a b l)(hp:cE c d l l')(hc:a≤c)(hd:d≤b)(hb:b≤l.length):Ag lt a b l':=λh0 k h1 h2=>by
 rw[hp.2.2 (a-1) (by omega)];by_cases hk:c≤k∧k<d
 ·obtain⟨q,g1,g2,e⟩:=hp.was (by omega) hk.1 hk.2;rw[e];exact h h0 q (by omega) (by omega)
 ·rw[hp.2.2 k (by omega)];exact h h0 k h1 h2
section
variable (m:Nat) {sn:Mi} {ps:LP} {st:List bN} {P:List a6→Prop} {cf:List a6→List a6→Int} (hc:Cm m sn ps st P cf) (ho:I8 P (Lt cf))
include hc ho
theorem ag3(a b:Nat)(l:LP)(hb:b≤l.length)(hl:l.length<dy)(hA:∀x∈l,P x):∀(kk i:Nat),b-i<kk→a<i→i≤b→kC (Lt cf) a i l→
   ∃i',Ht m (b:Int) sn ps st l kk (i:Int)=some ((i':Nat):Int)∧i≤i'∧i'≤b∧kC (Lt cf) a i' l:=by
 intro kk
 induction kk with
 |zero=>intro i h;omega
 |succ kk ih=>
  intro i hk ha hi hs;rw[Ht];by_cases hd:i<b
  ·have gU:decide ((i:Int)<(b:Int))=true:=ew (by omega);have hw:J ((i:Int)-1)=((i-1:Nat):Int):=lX (by omega) (by unfold dy at hl;omega);have hx:=fV (l:=l) (i:=i) (by omega);have hy:=fV (l:=l) (i:=i-1) (by omega);rw[iO (λ_=>by unfold ln;omega),iO (λ_=>by rw[hw];unfold ln;omega),gU,bo,hw,kB,kB,hc _ _ (hA _ hx) (hA _ hy),aW,lt_eq,bo];cases dF:decide (cf (gx l i) (gx l (i-1))<0)
   ·rw[ul,bo,cq (by unfold dy at hl;omega)];obtain⟨i',e,h1,h2,h3⟩:=ih (i+1) (by omega) (by omega) (by omega) (λp q g1 g2 g3=>by
     by_cases hq:q=i
     ·subst hq;by_cases hp:p=q-1
      ·subst hp;exact dF
      ·exact ho.nt _ _ _ (hA _ hx) (hA _ hy) (hA _ (fV (by omega))) dF (hs p (q-1) g1 (by omega) (by omega))
     ·exact hs p q g1 g2 (by omega))
    exact⟨i',e,by omega,h2,h3⟩
   ·rw[px,be];exact⟨i,rfl,dc _,hi,hs⟩
  ·have gU:decide ((i:Int)<(b:Int))=false:=dt (by omega);rw[iO (λh=>by rw[gU]at h;cases h),iO (λh=>by rw[gU]at h;cases h)];simp only[gU,be,aW,lt_eq];exact⟨i,rfl,dc _,hi,hs⟩
theorem ag4(a i:Nat):∀(j kk:Nat)(l:LP),j<kk→a≤j→j≤i→i<l.length→l.length<dy→(∀x∈l,P x)→Ag (Lt cf) a (i+1) l→
   ∃l',C5 m sn ps st kk l (j:Int)=some l'∧cE a (i+1) l l'∧(Ins (Lt cf) a j i l→kC (Lt cf) a (i+1) l'):=by
 intro j
 induction j with
 |zero=>
  intro kk l hk ha hj hi hl hA hH;obtain⟨kk,rfl⟩:∃q,kk=q+1:=⟨kk-1,by omega⟩;rw[C5,show decide ((1:Int)≤((0:Nat):Int))=false from rfl,be];exact⟨l,rfl,cE.rfl' _,λh p q h1 h2 h3=>h p q h1 h2 (by omega) (by omega)⟩
 |succ j ih=>
  intro kk l hk ha hj hi hl hA hH;obtain⟨kk,rfl⟩:∃q,kk=q+1:=⟨kk-1,by omega⟩;have hw:J (((j+1:Nat):Int)-1)=(j:Int):=by rw[lX (by omega) (by unfold dy at hl;omega)];rfl
  have hx:=fV (l:=l) (i:=j+1) (by omega);have hy:=fV (l:=l) (i:=j) (by omega);rw[C5,show decide ((1:Int)≤((j+1:Nat):Int))=true from ew (by omega),bo,hw,bS (by unfold ln;omega),bS (by unfold ln;omega),kB,kB,hc _ _ (hA _ hx) (hA _ hy),aW];cases dF:decide (cf (gx l (j+1)) (gx l j)<0)
  ·rw[ul,bo];refine⟨l,rfl,cE.rfl' _,λh p q h1 h2 h3=>?_⟩;by_cases hq:q=j+1
   ·subst hq;by_cases hp:p=j
    ·subst hp;exact dF
    ·exact ho.nt _ _ _ (hA _ hx) (hA _ hy) (hA _ (fV (by omega))) dF (h p j h1 (by omega) (by omega) (by omega))
   ·exact h p q h1 h2 (by omega) hq
  ·have hQ:a≠j+1:=λe=>by
    have:=hH (by omega) (j+1) (by omega) (by omega);rw[e,show j+1-1=j from rfl]at this;rw[show Lt cf (gx l (j+1)) (gx l j)=true from dF]at this;cases this
   have hs:(bO (bO l ((j+1:Nat):Int) (gx l j)) (j:Int) (gx l (j+1)))=sw l (j+1) j:=rfl;rw[px,be,lt_eq,bS (by unfold ln;rw[rL,List.length_set];omega),lt_eq,hs];have hp:=cE.sw (a:=a) (b:=i+1) (i:=j+1) (j:=j) (l:=l) (by omega) (by omega) (by omega) (by omega) (by omega) (by omega);obtain⟨l',e,h1,h2⟩:=ih kk (sw l (j+1) j) (by omega) (by omega) (by omega) (by rw[jU];omega) (by rw[jU];exact hl) (hp.all hA) (hH.pm hp (dc _) (dc _) (by omega));refine⟨l',e,hp.tr h1,λh=>h2 ?_⟩;intro p q g1 g2 g3 g4;rw[sT (by omega) (by omega),sT (by omega) (by omega),if_neg g4];by_cases q1:q=j+1
   ·subst q1;rw[if_pos rfl];by_cases p1:p=j
    ·subst p1;rw[if_pos rfl];exact ho.EY _ _ (hA _ hx) (hA _ hy) dF
    ·rw[if_neg p1,if_neg (by omega)];exact h p j g1 (by omega) (by omega) (by omega)
   ·rw[if_neg q1];by_cases p1:p=j
    ·rw[if_pos p1];exact h (j+1) q (by omega) (by omega) g3 q1
    ·rw[if_neg p1];by_cases p2:p=j+1
     ·rw[if_pos p2];exact h j q (by omega) (by omega) g3 q1
     ·rw[if_neg p2];exact h p q g1 g2 g3 q1
omit ho in
theorem ag5(b z:Nat):∀(kk j:Nat)(l:LP),b-j<kk→z<j→b≤l.length→l.length<dy→(∀x∈l,P x)→
   ∃l',EJ m (b:Int) sn ps st (z:Int) kk l (j:Int)=some (.inr ((z:Int),l'))∧cE z b l l':=by
 intro kk
 induction kk with
 |zero=>intro j l h;omega
 |succ kk ih=>
  intro j l hk hz hb hl hA;rw[EJ];by_cases hd:j<b
  ·have hw:J ((j:Int)-1)=((j-1:Nat):Int):=lX (by omega) (by unfold dy at hl;omega);have hx:=fV (l:=l) (i:=j) (by omega);have hy:=fV (l:=l) (i:=j-1) (by omega);rw[show decide ((j:Int)<(b:Int))=true from ew (by omega),bo,hw,bS (by unfold ln;omega),bS (by unfold ln;omega),kB,kB,hc _ _ (hA _ hx) (hA _ hy),aW];cases dF:decide (cf (gx l j) (gx l (j-1))<0)
   ·exact⟨l,rfl,cE.rfl' _⟩
   ·have hs:(bO (bO l (j:Int) (gx l (j-1))) ((j-1:Nat):Int) (gx l j))=sw l j (j-1):=rfl;rw[px,be,lt_eq,bS (by unfold ln;rw[rL,List.length_set];omega),lt_eq,hs,cq (by unfold dy at hl;omega)];have hp:=cE.sw (a:=z) (b:=b) (i:=j) (j:=j-1) (l:=l) (by omega) (by omega) (by omega) (by omega) (by omega) (by omega);obtain⟨l',e,h1⟩:=ih (j+1) (sw l j (j-1)) (by omega) (by omega) (by rw[jU];exact hb) (by rw[jU];exact hl) (hp.all hA);exact⟨l',e,hp.tr h1⟩
  ·rw[show decide ((j:Int)<(b:Int))=false from dt (by omega),be];exact⟨l,rfl,cE.rfl' _⟩
theorem ag6(a b:Nat):∀(kk i c:Nat)(l:LP),5-c<kk→a<i→i≤b→b≤l.length→l.length<dy→l.length+1<m→(∀x∈l,P x)→Ag (Lt cf) a b l→kC (Lt cf) a i l→
   ∃z,Hu m (a:Int) (b:Int) sn ps st kk l (i:Int) (c:Int)=some z∧(match z with
     | .inl r=>cE a b l r.2∧(r.1=true→kC (Lt cf) a b r.2)
     | .inr l'=>cE a b l l'):=by
 intro kk
 induction kk with
 |zero=>intro i c l h;omega
 |succ kk ih=>
  intro i c l hk ha hi hb hl hm hA hH hs;rw[Hu];by_cases hd:c<5
  ·rw[show decide ((c:Int)<5)=true from ew (by omega),bo];obtain⟨z,e,h1,h2,h3⟩:=ag3 m hc ho a b l hb hl hA m i (by omega) ha hi hs;rw[e,aW];by_cases hz:z=b
   ·subst hz;rw[show(((z:Nat):Int)==((z:Nat):Int))=true from beq_self_eq_true _,bo];exact⟨_,rfl,cE.rfl' _,λ_=>h3⟩
   ·rw[show(((z:Nat):Int)==((b:Nat):Int))=false from rW.2 (by omega),be,vo (by omega) (by unfold dy at hl;omega)];cases hq:decide (((b-a:Nat):Int)<50)
    ·have hw:J ((z:Int)-1)=((z-1:Nat):Int):=lX (by omega) (by unfold dy at hl;omega);have hsw:(bO (bO l (z:Int) (gi l ((z-1:Nat):Int))) ((z-1:Nat):Int) (gi l (z:Int)))=sw l z (z-1):=rfl;rw[be,hw,bS (by unfold ln;omega),bS (by unfold ln;omega),lt_eq,bS (by unfold ln;rw[rL,List.length_set];omega),lt_eq,hsw];have hp:=cE.sw (a:=a) (b:=b) (i:=z) (j:=z-1) (l:=l) (by omega) (by omega) (by omega) (by omega) (by omega) (by omega);have vp:=hp.all hA;have hH1:=hH.pm hp (dc _) (dc _) hb;have Qh:=jU l z (z-1);have S3:∃l2,cond (decide ((2:Int)≤J ((z:Int)-(a:Int)))) (C5 m sn ps st m (sw l z (z-1)) ((z-1:Nat):Int)) (some (sw l z (z-1)))=some l2∧cE a b (sw l z (z-1)) l2∧kC (Lt cf) a z l2:=by
      rw[vo (by omega) (by unfold dy at hl;omega)];cases I9:decide ((2:Int)≤((z-a:Nat):Int))
      ·have:=of_decide_eq_false I9;exact⟨_,rfl,cE.rfl' _,λp q g1 g2 g3=>by omega⟩
      ·rw[bo];obtain⟨l2,e2,g1,g2⟩:=ag4 m hc ho a (z-1) (z-1) m (sw l z (z-1)) (by omega) (by omega) (dc _) (by omega) (by omega) vp (λh0 k k1 k2=>hH1 h0 k k1 (by omega));refine⟨l2,e2,g1.up (dc _) (by omega),?_⟩;have:=g2 (λp q k1 k2 k3 k4=>by
        rw[sT (by omega) (by omega),sT (by omega) (by omega),if_neg k4,if_neg (by omega),if_neg (by omega),if_neg (by omega)];exact h3 p q k1 k2 (by omega))
       rwa [show z-1+1=z by omega]at this
     obtain⟨l2,e2,g1,g2⟩:=S3;have hl2:=g1.1;rw[e2,aW];have S4:∃l3,cond (decide ((2:Int)≤J ((b:Int)-(z:Int)))) (EJ m (b:Int) sn ps st (z:Int) m l2 (J ((z:Int)+1))) (some (.inr ((z:Int),l2)))=(some (.inr ((z:Int),l3)):Option (Sum (Sum (Bool×LP) LP) (Int×LP)))∧cE z b l2 l3:=by
      cases decide ((2:Int)≤J ((b:Int)-(z:Int)))
      ·exact⟨l2,rfl,cE.rfl' _⟩
      ·rw[bo,cq (by unfold dy at hl;omega)];exact ag5 m hc b z m (z+1) l2 (by omega) (by omega) (by omega) (by omega) (g1.all vp)
     obtain⟨l3,e3,g3⟩:=S4;rw[e3,aW];have F1:=(hp.tr g1).tr (g3.up (by omega) (dc _));obtain⟨y,e4,g4⟩:=ih z (c+1) l3 (by omega) (by omega) h2 (by rw[F1.1];exact hb) (by rw[F1.1];exact hl) (by rw[F1.1];exact hm) (F1.all hA) (hH.pm F1 (dc _) (dc _) hb) (g2.out g3 (.inr (dc _)));refine⟨y,?_,?_⟩
     ·rw[←e4,←cq (by omega)];rfl
     ·cases y with
      |inl r=>exact⟨F1.tr g4.1,g4.2⟩
      |inr l'=>exact F1.tr g4
    ·exact⟨_,rfl,cE.rfl' _,λh=>by cases h⟩
  ·rw[show decide ((c:Int)<5)=false from dt (by omega),be];exact⟨_,rfl,cE.rfl' _⟩
theorem ag7{a b:Nat}{l:LP}(nJ:a<b)(hb:b≤l.length)(hl:l.length<dy)(hm:l.length+6<m)(hA:∀x∈l,P x)(hH:Ag (Lt cf) a b l):
   ∃r l',EK m l (a:Int) (b:Int) sn ps st=some (r,l')∧cE a b l l'∧(r=true→kC (Lt cf) a b l'):=by
 obtain⟨z,e,h⟩:=ag6 m hc ho a b m (a+1) 0 l (by omega) (by omega) (by omega) hb hl (by omega) hA hH (λp q g1 g2 g3=>by omega);rw[EK,cq (by unfold dy at hl;omega),show(0:Int)=((0:Nat):Int)from rfl,e,aW];cases z with
 |inl r=>exact⟨r.1,r.2,rfl,h.1,h.2⟩
 |inr l'=>exact⟨false,l',rfl,h,λh=>by cases h⟩
end
section
variable (m:Nat) {sn:Mi} {ps:LP} {st:List bN} {P:List a6→Prop} {cf:List a6→List a6→Int} (hc:Cm m sn ps st P cf)
omit hc in
theorem ag8(a b:Int)(l:LP):∀(kk:Nat)(i:Int),HA m a b sn ps st l kk i=C7 m a sn ps st l (J (b-1)) kk i:=by
 intro kk
 induction kk with
 |zero=>intro i;rfl
 |succ kk ih=>intro i;rw[HA,C7,ih]
omit hc in
theorem ag9(a:Int)(l:LP)(z:Int):∀(kk:Nat)(i:Int),HB m a sn ps st l z kk i=C8 m a sn ps st l z kk i:=by
 intro kk
 induction kk with
 |zero=>intro i;rfl
 |succ kk ih=>intro i;rw[HB,C8,ih]
include hc
theorem a3a{a:Nat}{l:LP}(ha:a<l.length)(hl:l.length<dy)(hA:∀x∈l,P x)(j:Nat)(hj:j<l.length):∀(kk i:Nat),j+1-i<kk→i≤j+1→
   ∃i',C7 m (a:Int) sn ps st l (j:Int) kk (i:Int)=some ((i':Nat):Int)∧i≤i'∧i'≤j+1∧(∀k,i≤k→k<i'→Lt cf (gx l k) (gx l a)=true)∧(i'≤j→Lt cf (gx l i') (gx l a)=false):=by
 intro kk
 induction kk with
 |zero=>intro i h;omega
 |succ kk ih=>
  intro i hk hi;rw[C7];by_cases hd:i≤j
  ·have gU:decide ((i:Int)≤(j:Int))=true:=ew (by omega);have hx:=fV (l:=l) (i:=i) (by omega);rw[iO (λ_=>by unfold ln;omega),iO (λ_=>by unfold ln;omega),gU,bo,kB,kB,hc _ _ (hA _ hx) (hA _ (fV ha)),aW,lt_eq,bo];cases dF:decide (cf (gx l i) (gx l a)<0)
   ·exact⟨i,rfl,dc _,hi,λk h1 h2=>by omega,λ_=>dF⟩
   ·rw[bo,cq (by unfold dy at hl;omega)];obtain⟨i',e,h1,h2,h3,h4⟩:=ih (i+1) (by omega) (by omega);exact⟨i',e,by omega,h2,λk g1 g2=>by
     by_cases hk:k=i
     ·subst hk;exact dF
     ·exact h3 k (by omega) g2,h4⟩
  ·have gU:decide ((i:Int)≤(j:Int))=false:=dt (by omega);rw[iO (λh=>by rw[gU]at h;cases h),iO (λh=>by rw[gU]at h;cases h)];simp only[gU,be,aW,lt_eq];exact⟨i,rfl,dc _,hi,λk h1 h2=>by omega,λh=>by omega⟩
theorem a3b{a:Nat}{l:LP}(ha:a<l.length)(hl:l.length<dy)(hA:∀x∈l,P x)(i:Nat)(hi0:0<i):∀(kk j:Nat),j+1-i<kk→i≤j+1→j<l.length→
   ∃j',C8 m (a:Int) sn ps st l (i:Int) kk (j:Int)=some ((j':Nat):Int)∧i≤j'+1∧j'≤j∧(∀k,j'<k→k≤j→Lt cf (gx l k) (gx l a)=false)∧(i≤j'→Lt cf (gx l j') (gx l a)=true):=by
 intro kk
 induction kk with
 |zero=>intro i h;omega
 |succ kk ih=>
  intro j hk hi hj;rw[C8];by_cases hd:i≤j
  ·have gU:decide ((i:Int)≤(j:Int))=true:=ew (by omega);have hx:=fV (l:=l) (i:=j) (by omega);rw[iO (λ_=>by unfold ln;omega),iO (λ_=>by unfold ln;omega),gU,bo,kB,kB,hc _ _ (hA _ hx) (hA _ (fV ha)),aW,lt_eq,bo];cases dF:decide (cf (gx l j) (gx l a)<0)
   ·rw[ul,bo,lX (by omega) (by unfold dy at hl;omega)];obtain⟨j',e,h1,h2,h3,h4⟩:=ih (j-1) (by omega) (by omega) (by omega);exact⟨j',e,h1,by omega,λk g1 g2=>by
     by_cases hk:k=j
     ·subst hk;exact dF
     ·exact h3 k g1 (by omega),h4⟩
   ·rw[px,be];exact⟨j,rfl,hi,dc _,λk h1 h2=>by omega,λ_=>dF⟩
  ·have gU:decide ((i:Int)≤(j:Int))=false:=dt (by omega);rw[iO (λh=>by rw[gU]at h;cases h),iO (λh=>by rw[gU]at h;cases h)];simp only[gU,be,aW,lt_eq];exact⟨j,rfl,hi,dc _,λk h1 h2=>by omega,λh=>by omega⟩
omit hc in
def Xi(lt:List a6→List a6→Bool)(a b i j:Nat)(l:LP):Prop:=(∀k,a<k→k<i→lt (gx l k) (gx l a)=true)∧(∀k,j<k→k<b→lt (gx l k) (gx l a)=false)
theorem aga{a b:Nat}:∀(kk i j:Nat)(l:LP),j+1-i<kk→a<i→i≤j+1→j<b→b≤l.length→l.length<dy→l.length+1<m→(∀x∈l,P x)→Xi (Lt cf) a b i j l→
   ∃(q:Nat)(l':LP),HC m (a:Int) sn ps st kk l (i:Int) (j:Int)=some ((q:Int),l')∧a≤q∧q<b∧cE (a+1) b l l'∧Xi (Lt cf) a b (q+1) q l':=by
 intro kk
 induction kk with
 |zero=>intro i j l h;omega
 |succ kk ih=>
  intro i j l hk ha dL hj hb hl hm hA hM;rw[HC];obtain⟨i1,e1,h1,h2,h3,h4⟩:=a3a m hc (a:=a) (l:=l) (by omega) hl hA j (by omega) m i (by omega) dL;obtain⟨j1,e2,g1,g2,g3,g4⟩:=a3b m hc (a:=a) (l:=l) (by omega) hl hA i1 (by omega) m j (by omega) (by omega) (by omega);rw[e1,aW,e2,aW];have k1:∀k,a<k→k<i1→Lt cf (gx l k) (gx l a)=true:=λk q1 q2=>by
   by_cases hk:k<i
   ·exact hM.1 k q1 hk
   ·exact h3 k (by omega) q2
  have k2:∀k,j1<k→k<b→Lt cf (gx l k) (gx l a)=false:=λk q1 q2=>by
   by_cases hk:j<k
   ·exact hM.2 k hk q2
   ·exact g3 k q1 (by omega)
  by_cases hd:j1<i1
  ·rw[show decide ((j1:Int)<(i1:Int))=true from ew (by omega),bo];exact⟨j1,l,rfl,by omega,by omega,cE.rfl' _,λk q1 q2=>k1 k q1 (by omega),k2⟩
  ·have hQ:i1≠j1:=λe=>by
    have x1:=h4 (by omega);have x2:=g4 (by omega);rw[e]at x1;rw[x1]at x2;cases x2
   have hs:(bO (bO l (i1:Int) (gi l (j1:Int))) (j1:Int) (gi l (i1:Int)))=sw l i1 j1:=rfl;rw[show decide ((j1:Int)<(i1:Int))=false from dt (by omega),be,bS (by unfold ln;omega),bS (by unfold ln;omega),lt_eq,bS (by unfold ln;rw[rL,List.length_set];omega),lt_eq,hs,cq (by unfold dy at hl;omega),lX (by omega) (by unfold dy at hl;omega)];have hp:=cE.sw (a:=a+1) (b:=b) (i:=i1) (j:=j1) (l:=l) (by omega) (by omega) (by omega) (by omega) (by omega) (by omega);have sx:=sT (l:=l) (i:=i1) (j:=j1) (by omega) (by omega);have ea:gx (sw l i1 j1) a=gx l a:=by rw[sx,if_neg (by omega),if_neg (by omega)]
   obtain⟨q,l',e,r1,r2,r3,r4⟩:=ih (i1+1) (j1-1) (sw l i1 j1) (by omega) (by omega) (by omega) (by omega) (by rw[jU];exact hb) (by rw[jU];exact hl) (by rw[jU];exact hm) (hp.all hA) (by
    refine⟨λk q1 q2=>?_,λk q1 q2=>?_⟩
    ·rw[ea,sx,if_neg (by omega)];by_cases hk:k=i1
     ·rw[if_pos hk];exact g4 (by omega)
     ·rw[if_neg hk];exact k1 k q1 (by omega)
    ·rw[ea,sx];by_cases hk:k=j1
     ·rw[if_pos hk];exact h4 (by omega)
     ·rw[if_neg hk,if_neg (by omega)];exact k2 k (by omega) q2)
   exact⟨q,l',e,r1,r2,hp.tr r3,r4⟩
omit hc in
/-- Parted at 'q'. -/
def Prt(lt:List a6→List a6→Bool)(a b q:Nat)(l:LP):Prop:=(∀k,a≤k→k<q→lt (gx l k) (gx l q)=true)∧(∀k,q<k→k<b→lt (gx l k) (gx l q)=false)
omit hc in
theorem a3c{lt:List a6→List a6→Bool}{a b q:Nat}{l:LP}(h:Xi lt a b (q+1) q l)(ha:a≤q)(hq:q<b)(hb:b≤l.length):Prt lt a b q (sw l q a):=by
 have sx:=sT (l:=l) (i:=q) (j:=a) (by omega) (by omega);by_cases hqa:q=a
 ·subst hqa;refine⟨λk h1 h2=>by omega,λk h1 h2=>?_⟩;rw[sx,sx,if_neg (by omega),if_neg (by omega),if_pos rfl];exact h.2 k h1 h2
 ·have eq:gx (sw l q a) q=gx l a:=by rw[sx,if_neg hqa,if_pos rfl]
  refine⟨λk h1 h2=>?_,λk h1 h2=>?_⟩
  ·rw[eq,sx];by_cases hk:k=a
   ·rw[if_pos hk];exact h.1 q (by omega) (by omega)
   ·rw[if_neg hk,if_neg (by omega)];exact h.1 k (by omega) (by omega)
  ·rw[eq,sx,if_neg (by omega),if_neg (by omega)];exact h.2 k h1 h2
theorem agb{a b p:Nat}{l:LP}(nJ:a+2≤b)(hb:b≤l.length)(hl:l.length<dy)(hm:l.length+1<m)(hp1:a≤p)(Qi:p<b)(hA:∀x∈l,P x):
   ∃(q:Nat)(r:Bool)(l':LP),HE m l (a:Int) (b:Int) (p:Int) sn ps st=some ((q:Int),r,l')∧a≤q∧q<b∧cE a b l l'∧Prt (Lt cf) a b q l':=by
 have hs:(bO (bO l (a:Int) (gi l (p:Int))) (p:Int) (gi l (a:Int)))=sw l a p:=rfl;rw[HE,bS (by unfold ln;omega),bS (by unfold ln;omega),lt_eq,bS (by unfold ln;rw[rL,List.length_set];omega),lt_eq,hs,ag8,cq (by unfold dy at hl;omega),lX (by omega) (by unfold dy at hl;omega)];have hp:=cE.sw (a:=a) (b:=b) (i:=a) (j:=p) (l:=l) (by omega) (by omega) (by omega) (by omega) (by omega) (by omega);have vp:=hp.all hA;have Qh:=jU l a p;generalize sw l a p=l1 at hp vp Qh;obtain⟨i1,e1,h1,h2,h3,h4⟩:=a3a m hc (a:=a) (l:=l1) (by omega) (by omega) vp (b-1) (by omega) m (a+1) (by omega) (by omega);obtain⟨j1,e2,g1,g2,g3,g4⟩:=a3b m hc (a:=a) (l:=l1) (by omega) (by omega) vp i1 (by omega) m (b-1) (by omega) (by omega) (by omega);rw[e1,aW,ag9,e2,aW];by_cases hd:j1<i1
 ·have yd:(bO (bO l1 (j1:Int) (gi l1 (a:Int))) (a:Int) (gi l1 (j1:Int)))=sw l1 j1 a:=rfl;rw[show decide ((j1:Int)<(i1:Int))=true from ew (by omega),bo,bS (by unfold ln;omega),bS (by unfold ln;omega),lt_eq,bS (by unfold ln;rw[rL,List.length_set];omega),lt_eq,yd];exact⟨j1,true,_,rfl,by omega,by omega,hp.tr (cE.sw (by omega) (by omega) (by omega) (by omega) (by omega) (by omega)),a3c ⟨λk q1 q2=>h3 k (by omega) (by omega),λk q1 q2=>g3 k q1 (by omega)⟩ (by omega) (by omega) (by omega)⟩
 ·have hQ:i1≠j1:=λe=>by
   have x1:=h4 (by omega);have x2:=g4 (by omega);rw[e]at x1;rw[x1]at x2;cases x2
  have yd:(bO (bO l1 (i1:Int) (gi l1 (j1:Int))) (j1:Int) (gi l1 (i1:Int)))=sw l1 i1 j1:=rfl;rw[show decide ((j1:Int)<(i1:Int))=false from dt (by omega),be,bS (by unfold ln;omega),bS (by unfold ln;omega),lt_eq,bS (by unfold ln;rw[rL,List.length_set];omega),lt_eq,yd,cq (by unfold dy at hl;omega),lX (by omega) (by unfold dy at hl;omega)];have Qi:=cE.sw (a:=a+1) (b:=b) (i:=i1) (j:=j1) (l:=l1) (by omega) (by omega) (by omega) (by omega) (by omega) (by omega);have sx:=sT (l:=l1) (i:=i1) (j:=j1) (by omega) (by omega);have ea:gx (sw l1 i1 j1) a=gx l1 a:=by rw[sx,if_neg (by omega),if_neg (by omega)]
  obtain⟨q,l',e,r1,r2,r3,r4⟩:=aga m hc (a:=a) (b:=b) m (i1+1) (j1-1) (sw l1 i1 j1) (by omega) (by omega) (by omega) (by omega) (by rw[jU];omega) (by rw[jU];omega) (by rw[jU];omega) (Qi.all vp) (by
   refine⟨λk q1 q2=>?_,λk q1 q2=>?_⟩
   ·rw[ea,sx,if_neg (by omega)];by_cases hk:k=i1
    ·rw[if_pos hk];exact g4 (by omega)
    ·rw[if_neg hk];exact h3 k (by omega) (by omega)
   ·rw[ea,sx];by_cases hk:k=j1
    ·rw[if_pos hk];exact h4 (by omega)
    ·rw[if_neg hk,if_neg (by omega)];exact g3 k (by omega) (by omega))
  have hl':=r3.1;rw[jU]at hl';have hs3:(bO (bO l' (q:Int) (gi l' (a:Int))) (a:Int) (gi l' (q:Int)))=sw l' q a:=rfl;rw[e,aW];dsimp only;rw[bS (by unfold ln;omega),bS (by unfold ln;omega),lt_eq,bS (by unfold ln;rw[rL,List.length_set];omega),lt_eq,hs3];exact⟨q,false,_,rfl,r1,r2,(hp.tr ((Qi.tr r3).up (by omega) (dc _))).tr (cE.sw (by omega) (by omega) (by omega) (by omega) (by omega) (by omega)),a3c r4 r1 r2 (by omega)⟩
end
section
variable (m:Nat) {sn:Mi} {ps:LP} {st:List bN} {P:List a6→Prop} {cf:List a6→List a6→Int} (hc:Cm m sn ps st P cf)
include hc
theorem agc{a:Nat}{l:LP}(ha:a<l.length)(hl:l.length<dy)(hA:∀x∈l,P x)(j:Nat)(hj:j<l.length):∀(kk i:Nat),j+1-i<kk→i≤j+1→
   ∃i',Hw m (a:Int) sn ps st l (j:Int) kk (i:Int)=some ((i':Nat):Int)∧i≤i'∧i'≤j+1∧(∀k,i≤k→k<i'→Lt cf (gx l a) (gx l k)=false)∧(i'≤j→Lt cf (gx l a) (gx l i')=true):=by
 intro kk
 induction kk with
 |zero=>intro i h;omega
 |succ kk ih=>
  intro i hk hi;rw[Hw];by_cases hd:i≤j
  ·have gU:decide ((i:Int)≤(j:Int))=true:=ew (by omega);have hx:=fV (l:=l) (i:=i) (by omega);rw[iO (λ_=>by unfold ln;omega),iO (λ_=>by unfold ln;omega),gU,bo,kB,kB,hc _ _ (hA _ (fV ha)) (hA _ hx),aW,lt_eq,bo];cases dF:decide (cf (gx l a) (gx l i)<0)
   ·rw[ul,bo,cq (by unfold dy at hl;omega)];obtain⟨i',e,h1,h2,h3,h4⟩:=ih (i+1) (by omega) (by omega);exact⟨i',e,by omega,h2,λk g1 g2=>by
     by_cases hk:k=i
     ·subst hk;exact dF
     ·exact h3 k (by omega) g2,h4⟩
   ·rw[px,be];exact⟨i,rfl,dc _,hi,λk h1 h2=>by omega,λ_=>dF⟩
  ·have gU:decide ((i:Int)≤(j:Int))=false:=dt (by omega);rw[iO (λh=>by rw[gU]at h;cases h),iO (λh=>by rw[gU]at h;cases h)];simp only[gU,be,aW,lt_eq];exact⟨i,rfl,dc _,hi,λk h1 h2=>by omega,λh=>by omega⟩
theorem agd{a:Nat}{l:LP}(ha:a<l.length)(hl:l.length<dy)(hA:∀x∈l,P x)(i:Nat)(hi0:0<i):∀(kk j:Nat),j+1-i<kk→i≤j+1→j<l.length→
   ∃j',Hx m (a:Int) sn ps st l (i:Int) kk (j:Int)=some ((j':Nat):Int)∧i≤j'+1∧j'≤j∧(∀k,j'<k→k≤j→Lt cf (gx l a) (gx l k)=true)∧(i≤j'→Lt cf (gx l a) (gx l j')=false):=by
 intro kk
 induction kk with
 |zero=>intro i h;omega
 |succ kk ih=>
  intro j hk hi hj;rw[Hx];by_cases hd:i≤j
  ·have gU:decide ((i:Int)≤(j:Int))=true:=ew (by omega);have hx:=fV (l:=l) (i:=j) (by omega);rw[iO (λ_=>by unfold ln;omega),iO (λ_=>by unfold ln;omega),gU,bo,kB,kB,hc _ _ (hA _ (fV ha)) (hA _ hx),aW,lt_eq,bo];cases dF:decide (cf (gx l a) (gx l j)<0)
   ·exact⟨j,rfl,hi,dc _,λk h1 h2=>by omega,λ_=>dF⟩
   ·rw[bo,lX (by omega) (by unfold dy at hl;omega)];obtain⟨j',e,h1,h2,h3,h4⟩:=ih (j-1) (by omega) (by omega) (by omega);exact⟨j',e,h1,by omega,λk g1 g2=>by
     by_cases hk:k=j
     ·subst hk;exact dF
     ·exact h3 k g1 (by omega),h4⟩
  ·have gU:decide ((i:Int)≤(j:Int))=false:=dt (by omega);rw[iO (λh=>by rw[gU]at h;cases h),iO (λh=>by rw[gU]at h;cases h)];simp only[gU,be,aW,lt_eq];exact⟨j,rfl,hi,dc _,λk h1 h2=>by omega,λh=>by omega⟩
omit hc in
def Xj(lt:List a6→List a6→Bool)(a b i j:Nat)(l:LP):Prop:=(∀k,a<k→k<i→lt (gx l a) (gx l k)=false)∧(∀k,j<k→k<b→lt (gx l a) (gx l k)=true)
theorem age{a b:Nat}:∀(kk i j:Nat)(l:LP),j+1-i<kk→a<i→i≤j+1→j<b→b≤l.length→l.length<dy→l.length+1<m→(∀x∈l,P x)→Xj (Lt cf) a b i j l→
   ∃(q:Nat)(l':LP),Hy m (a:Int) sn ps st kk l (i:Int) (j:Int)=some ((q:Int),l')∧a<q∧q≤b∧cE (a+1) b l l'∧Xj (Lt cf) a b q (q-1) l':=by
 intro kk
 induction kk with
 |zero=>intro i j l h;omega
 |succ kk ih=>
  intro i j l hk ha dL hj hb hl hm hA hM;rw[Hy];obtain⟨i1,e1,h1,h2,h3,h4⟩:=agc m hc (a:=a) (l:=l) (by omega) hl hA j (by omega) m i (by omega) dL;obtain⟨j1,e2,g1,g2,g3,g4⟩:=agd m hc (a:=a) (l:=l) (by omega) hl hA i1 (by omega) m j (by omega) (by omega) (by omega);rw[e1,aW,e2,aW];have k1:∀k,a<k→k<i1→Lt cf (gx l a) (gx l k)=false:=λk q1 q2=>by
   by_cases hk:k<i
   ·exact hM.1 k q1 hk
   ·exact h3 k (by omega) q2
  have k2:∀k,j1<k→k<b→Lt cf (gx l a) (gx l k)=true:=λk q1 q2=>by
   by_cases hk:j<k
   ·exact hM.2 k hk q2
   ·exact g3 k q1 (by omega)
  by_cases hd:j1<i1
  ·rw[show decide ((j1:Int)<(i1:Int))=true from ew (by omega),bo];exact⟨i1,l,rfl,by omega,by omega,cE.rfl' _,k1,λk q1 q2=>k2 k (by omega) q2⟩
  ·have hQ:i1≠j1:=λe=>by
    have x1:=h4 (by omega);have x2:=g4 (by omega);rw[e]at x1;rw[x1]at x2;cases x2
   have hs:(bO (bO l (i1:Int) (gi l (j1:Int))) (j1:Int) (gi l (i1:Int)))=sw l i1 j1:=rfl;rw[show decide ((j1:Int)<(i1:Int))=false from dt (by omega),be,bS (by unfold ln;omega),bS (by unfold ln;omega),lt_eq,bS (by unfold ln;rw[rL,List.length_set];omega),lt_eq,hs,cq (by unfold dy at hl;omega),lX (by omega) (by unfold dy at hl;omega)];have hp:=cE.sw (a:=a+1) (b:=b) (i:=i1) (j:=j1) (l:=l) (by omega) (by omega) (by omega) (by omega) (by omega) (by omega);have sx:=sT (l:=l) (i:=i1) (j:=j1) (by omega) (by omega);have ea:gx (sw l i1 j1) a=gx l a:=by rw[sx,if_neg (by omega),if_neg (by omega)]
   obtain⟨q,l',e,r1,r2,r3,r4⟩:=ih (i1+1) (j1-1) (sw l i1 j1) (by omega) (by omega) (by omega) (by omega) (by rw[jU];exact hb) (by rw[jU];exact hl) (by rw[jU];exact hm) (hp.all hA) (by
    refine⟨λk q1 q2=>?_,λk q1 q2=>?_⟩
    ·rw[ea,sx,if_neg (by omega)];by_cases hk:k=i1
     ·rw[if_pos hk];exact g4 (by omega)
     ·rw[if_neg hk];exact k1 k q1 (by omega)
    ·rw[ea,sx];by_cases hk:k=j1
     ·rw[if_pos hk];exact h4 (by omega)
     ·rw[if_neg hk,if_neg (by omega)];exact k2 k (by omega) q2)
   exact⟨q,l',e,r1,r2,hp.tr r3,r4⟩
theorem agf{a b p:Nat}{l:LP}(nJ:a+2≤b)(hb:b≤l.length)(hl:l.length<dy)(hm:l.length+1<m)(hp1:a≤p)(Qi:p<b)(hA:∀x∈l,P x):
   ∃(q:Nat)(l':LP),Hz m l (a:Int) (b:Int) (p:Int) sn ps st=some ((q:Int),l')∧a<q∧q≤b∧cE a b l l'∧gx l' a=gx l p∧Xj (Lt cf) a b q (q-1) l':=by
 have hs:(bO (bO l (a:Int) (gi l (p:Int))) (p:Int) (gi l (a:Int)))=sw l a p:=rfl;rw[Hz,bS (by unfold ln;omega),bS (by unfold ln;omega),lt_eq,bS (by unfold ln;rw[rL,List.length_set];omega),lt_eq,hs,cq (by unfold dy at hl;omega),lX (by omega) (by unfold dy at hl;omega)];have hp:=cE.sw (a:=a) (b:=b) (i:=a) (j:=p) (l:=l) (by omega) (by omega) (by omega) (by omega) (by omega) (by omega);have vp:=hp.all hA;obtain⟨q,l',e,r1,r2,r3,r4⟩:=age m hc (a:=a) (b:=b) m (a+1) (b-1) (sw l a p) (by omega) (by omega) (by omega) (by omega) (by rw[jU];exact hb) (by rw[jU];exact hl) (by rw[jU];exact hm) vp ⟨λk q1 q2=>by omega,λk q1 q2=>by omega⟩;rw[e,aW];refine⟨q,l',rfl,r1,r2,hp.tr (r3.up (by omega) (dc _)),?_,r4⟩;rw[r3.2.2 a (.inl (by omega)),sT (by omega) (by omega)];by_cases h:a=p
 ·rw[if_pos h,h]
 ·rw[if_neg h,if_pos rfl]
end
/-- No parent from 'lo' on is less than a child of its own. -/
def Hp(lt:List a6→List a6→Bool)(F n lo:Nat)(l:LP):Prop:=∀i,lo≤i→∀c,(c=2*i+1∨c=2*i+2)→c<n→lt (gx l (F+i)) (gx l (F+c))=false
/-- The same but for 'r', and the parent of 'r' against the children of 'r'. -/
def Ov(lt:List a6→List a6→Bool)(F n lo r:Nat)(l:LP):Prop:=
 (∀i,lo≤i→i≠r→∀c,(c=2*i+1∨c=2*i+2)→c<n→lt (gx l (F+i)) (gx l (F+c))=false)∧
 (∀p,lo≤p→(r=2*p+1∨r=2*p+2)→∀c,(c=2*r+1∨c=2*r+2)→c<n→lt (gx l (F+p)) (gx l (F+c))=false)
theorem Xk{i:Nat}(h:i<4611686018427387904):J (i:Int)=(i:Int):=nn (by omega) (by omega)
theorem kid{r:Nat}(h:r<1000000000):J (J (2*(r:Int))+1)=((2*r+1:Nat):Int):=by
 rw[nn (x:=2*(r:Int)) (by omega) (by omega),nn (by omega) (by omega)];rfl
section
variable (m:Nat) {sn:Mi} {ps:LP} {st:List bN} {P:List a6→Prop} {cf:List a6→List a6→Int} (hc:Cm m sn ps st P cf) (ho:I8 P (Lt cf))
include hc ho
theorem a3d(F n lo:Nat):∀(kk r:Nat)(l:LP),n+1-r<kk→lo≤r→r≤n→(r<n∨n=0)→F+n≤l.length→l.length<16777216→(∀x∈l,P x)→Ov (Lt cf) F n lo r l→
   ∃l',EE m (n:Int) (F:Int) sn ps st kk l (r:Int)=some l'∧cE (F+lo) (F+n) l l'∧Hp (Lt cf) F n lo l':=by
 intro kk
 induction kk with
 |zero=>intro r l h;omega
 |succ kk ih=>
  intro r l hk u5 hr hrn hF hl hA hO;rw[EE,kid (by omega),lt_eq];by_cases hd:n≤2*r+1
  ·rw[show decide ((n:Int)≤((2*r+1:Nat):Int))=true from ew (by omega),bo];refine⟨l,rfl,cE.rfl' _,λi h1 c h2 h3=>?_⟩;by_cases hi:i=r
   ·omega
   ·exact hO.1 i h1 hi c h2 h3
  ·rw[show decide ((n:Int)≤((2*r+1:Nat):Int))=false from dt (by omega),be,cq (by omega),lt_eq,Af (i:=F) (j:=2*r+1) (by omega),cq (i:=F+(2*r+1)) (by omega),Af (i:=F) (j:=r) (by omega)];have m0:=fV (l:=l) (i:=F+(2*r+1)) (by omega);have hz:∃z:Nat,(z=2*r+1∨z=2*r+2)∧z<n∧(∀c,(c=2*r+1∨c=2*r+2)→c<n→c≠z→Lt cf (gx l (F+z)) (gx l (F+c))=false)∧
      (aH (decide (((2*r+1+1:Nat):Int)<(n:Int))=true→0≤((F+(2*r+1):Nat):Int)∧((F+(2*r+1):Nat):Int)<ln l)<|
       aH (decide (((2*r+1+1:Nat):Int)<(n:Int))=true→0≤((F+(2*r+1)+1:Nat):Int)∧((F+(2*r+1)+1:Nat):Int)<ln l)<|
       Option.bind (cond (decide (((2*r+1+1:Nat):Int)<(n:Int))) (o5 m (gi l ((F+(2*r+1):Nat):Int)) (gi l ((F+(2*r+1)+1:Nat):Int)) sn ps st) (some default)) λba=>
       cond (cond (decide (((2*r+1+1:Nat):Int)<(n:Int))) (decide (ba<0)) false) (some ((2*r+1+1:Nat):Int)) (some ((2*r+1:Nat):Int)))=some (z:Int):=by
    by_cases h2:2*r+1+1<n
    ·have m1:=fV (l:=l) (i:=F+(2*r+1)+1) (by omega);rw[iO (λ_=>by unfold ln;omega),iO (λ_=>by unfold ln;omega),show decide (((2*r+1+1:Nat):Int)<(n:Int))=true from ew (by omega),bo,kB,kB,hc _ _ (hA _ m0) (hA _ m1),aW,bo];cases dF:decide (cf (gx l (F+(2*r+1))) (gx l (F+(2*r+1)+1))<0)
     ·refine⟨2*r+1,.inl rfl,by omega,λc g1 g2 g3=>?_,rfl⟩;rw[show F+c=F+(2*r+1)+1 by omega];exact dF
     ·refine⟨2*r+1+1,.inr rfl,h2,λc g1 g2 g3=>?_,rfl⟩;rw[show F+c=F+(2*r+1) by omega,show F+(2*r+1+1)=F+(2*r+1)+1 by omega];exact ho.EY _ _ (hA _ m0) (hA _ m1) dF
    ·have hf:decide (((2*r+1+1:Nat):Int)<(n:Int))=false:=dt (by omega);rw[iO (λh=>by rw[hf]at h;cases h),iO (λh=>by rw[hf]at h;cases h),hf];exact⟨2*r+1,.inl rfl,by omega,λc g1 g2 g3=>by omega,rfl⟩
   obtain⟨z,rR,I9,hz3,hz4⟩:=hz;have mr:=fV (l:=l) (i:=F+r) (by omega);have mz:=fV (l:=l) (i:=F+z) (by omega);rw[hz4,aW,Af (i:=F) (j:=z) (by omega),bS (by unfold ln;omega),bS (by unfold ln;omega),kB,kB,hc _ _ (hA _ mr) (hA _ mz),aW];cases dF:decide (cf (gx l (F+r)) (gx l (F+z))<0)
   ·rw[ul,bo];refine⟨l,rfl,cE.rfl' _,λi h1 c h2 h3=>?_⟩;by_cases hi:i=r
    ·subst hi;by_cases Ia:c=z
     ·subst Ia;exact dF
     ·exact ho.nt _ _ _ (hA _ mr) (hA _ mz) (hA _ (fV (by omega))) dF (hz3 c h2 h3 Ia)
    ·exact hO.1 i h1 hi c h2 h3
   ·have hs:(bO (bO l ((F+r:Nat):Int) (gx l (F+z))) ((F+z:Nat):Int) (gx l (F+r)))=sw l (F+r) (F+z):=rfl;rw[px,be,lt_eq,bS (by unfold ln;rw[rL,List.length_set];omega),lt_eq,hs];have hp:=cE.sw (a:=F+lo) (b:=F+n) (i:=F+r) (j:=F+z) (l:=l) (by omega) (by omega) (by omega) (by omega) (by omega) (by omega);have sx:=sT (l:=l) (i:=F+r) (j:=F+z) (by omega) (by omega);have ez:gx (sw l (F+r) (F+z)) (F+z)=gx l (F+r):=by rw[sx,if_pos rfl]
    have er:gx (sw l (F+r) (F+z)) (F+r)=gx l (F+z):=by rw[sx,if_neg (by omega),if_pos rfl]
    have eo:∀k,k≠r→k≠z→gx (sw l (F+r) (F+z)) (F+k)=gx l (F+k):=λk g1 g2=>by rw[sx,if_neg (by omega),if_neg (by omega)]
    obtain⟨l',e,g1,g2⟩:=ih z (sw l (F+r) (F+z)) (by omega) (by omega) (by omega) (.inl I9) (by rw[jU];exact hF) (by rw[jU];exact hl) (hp.all hA) (by
     refine⟨λi h1 h2 c h3 h4=>?_,λp h1 h2 c h3 h4=>?_⟩
     ·by_cases hi:i=r
      ·subst hi;rw[er];by_cases Ia:c=z
       ·subst Ia;rw[ez];exact ho.EY _ _ (hA _ mr) (hA _ mz) dF
       ·rw[eo c (by omega) Ia];exact hz3 c h3 h4 Ia
      ·rw[eo i hi h2];by_cases Mw:c=r
       ·subst Mw;rw[er];exact hO.2 i h1 h3 z rR I9
       ·rw[eo c Mw (by omega)];exact hO.1 i h1 hi c h3 h4
     ·have hpr:p=r:=by omega
      subst hpr;rw[er,eo c (by omega) (by omega)];exact hO.1 z (by omega) (by omega) c h3 h4)
    exact⟨l',e,hp.tr g1,g2⟩
theorem agh(F n:Nat)(hn:0<n):∀(kk t:Nat)(l:LP),t<kk→t≤n→F+n≤l.length→l.length<16777216→l.length+2<m→(∀x∈l,P x)→Hp (Lt cf) F n t l→
   ∃l',Hm m (F:Int) ((F+n:Nat):Int) sn ps st kk l ((t:Int)-1)=some l'∧cE F (F+n) l l'∧Hp (Lt cf) F n 0 l':=by
 intro kk
 induction kk with
 |zero=>intro t l h;omega
 |succ kk ih=>
  intro t l hk ht hF hl hm hA hH;rw[Hm];cases t with
  |zero=>exact⟨l,rfl,cE.rfl' _,hH⟩
  |succ t=>
   rw[show((t+1:Nat):Int)-1=(t:Int) by omega,show decide ((0:Int)≤(t:Int))=true from ew (by omega),bo,vo (by omega) (by omega),show F+n-F=n by omega];obtain⟨l1,e1,h1,h2⟩:=a3d m hc ho F n t m t l (by omega) (dc _) (by omega) (.inl (by omega)) hF hl hA ⟨λi g1 g2 c g3 g4=>hH i (by omega) c g3 g4,λp g1 g2 c g3 g4=>by omega⟩;rw[EF,e1,aW,nn (x:=(t:Int)-1) (by omega) (by omega)];obtain⟨l2,e2,h3,h4⟩:=ih t l1 (by omega) (by omega) (by rw[h1.1];exact hF) (by rw[h1.1];exact hl) (by rw[h1.1];exact hm) (h1.all hA) h2;exact⟨l2,e2,(h1.up (by omega) (dc _)).tr h3,h4⟩
omit hc in
theorem agi{F n:Nat}{l:LP}(hF:F+n≤l.length)(hA:∀x∈l,P x)(h:Hp (Lt cf) F n 0 l):∀k,k<n→Lt cf (gx l F) (gx l (F+k))=false:=by
 intro k
 induction k using Nat.strongRecOn with
 |_ k ih=>
  intro hk;by_cases h0:k=0
  ·subst h0;exact ho.ir _ (hA _ (fV (by omega)))
  ·exact ho.nt _ _ _ (hA _ (fV (by omega))) (hA _ (fV (i:=F+(k-1)/2) (by omega))) (hA _ (fV (by omega))) (ih ((k-1)/2) (by omega) (by omega)) (h ((k-1)/2) (by omega) k (by omega) hk)
theorem agj(F n:Nat):∀(kk t:Nat)(l:LP),t<kk→t≤n→F+n≤l.length→l.length<16777216→l.length+2<m→(∀x∈l,P x)→Hp (Lt cf) F t 0 l→kC (Lt cf) (F+t) (F+n) l→(∀p q,p<t→t≤q→q<n→Lt cf (gx l (F+q)) (gx l (F+p))=false)→
   ∃l',Hn m (F:Int) sn ps st kk l ((t:Int)-1)=some l'∧cE F (F+n) l l'∧kC (Lt cf) F (F+n) l':=by
 intro kk
 induction kk with
 |zero=>intro t l h;omega
 |succ kk ih=>
  intro t l hk ht hF hl hm hA hH hS hM;rw[Hn];cases t with
  |zero=>exact⟨l,rfl,cE.rfl' _,hS⟩
  |succ t=>
   have hs:(bO (bO l (F:Int) (gi l ((F+t:Nat):Int))) ((F+t:Nat):Int) (gi l (F:Int)))=sw l F (F+t):=rfl;rw[show((t+1:Nat):Int)-1=(t:Int) by omega,show decide ((0:Int)≤(t:Int))=true from ew (by omega),bo,Af (by omega),bS (by unfold ln;omega),bS (by unfold ln;omega),lt_eq,bS (by unfold ln;rw[rL,List.length_set];omega),lt_eq,hs];have hp:=cE.sw (a:=F) (b:=F+n) (i:=F) (j:=F+t) (l:=l) (by omega) (by omega) (by omega) (by omega) (by omega) (by omega);have sx:=sT (l:=l) (i:=F) (j:=F+t) (by omega) (by omega);have mx:=agi ho (l:=l) (F:=F) (n:=t+1) (by omega) hA hH;have vp:=hp.all hA;have Qh:=jU l F (F+t);have et:gx (sw l F (F+t)) (F+t)=gx l F:=by rw[sx,if_pos rfl]
   have e9:∀k,k<t→∃k',k'<t+1∧gx (sw l F (F+t)) (F+k)=gx l (F+k'):=λk hk=>by
    rw[sx,if_neg (by omega)];by_cases h0:F+k=F
    ·rw[if_pos h0];exact⟨t,by omega,rfl⟩
    ·rw[if_neg h0];exact⟨k,by omega,rfl⟩
   have Xl:∀q,t<q→gx (sw l F (F+t)) (F+q)=gx l (F+q):=λq hq=>by rw[sx,if_neg (by omega),if_neg (by omega)]
   obtain⟨l1,e1,h1,h2⟩:=a3d m hc ho F t 0 m 0 (sw l F (F+t)) (by omega) (dc _) (by omega) (by omega) (by omega) (by omega) vp ⟨λi g1 g2 c g3 g4=>by
     rw[sx,if_neg (by omega),if_neg (by omega),sx,if_neg (by omega),if_neg (by omega)];exact hH i (by omega) c g3 (by omega),λp g1 g2 c g3 g4=>by omega⟩
   rw[EF];have u7:EE m (t:Int) (F:Int) sn ps st m (sw l F (F+t)) 0=some l1:=e1;rw[u7,aW,nn (x:=(t:Int)-1) (by omega) (by omega)];have was:=λk (hk:k<t)=>h1.was (by omega) (k:=F+k) (by omega) (by omega);have out:∀q,t≤q→gx l1 (F+q)=gx (sw l F (F+t)) (F+q):=λq hq=>h1.2.2 _ (.inr (by omega));have low:∀k,k<t→∃k',k'<t+1∧gx l1 (F+k)=gx l (F+k'):=λk hk=>by
    obtain⟨q,q1,q2,q3⟩:=was k hk;obtain⟨k',k1,k2⟩:=e9 (q-F) (by omega);exact⟨k',k1,by rw[q3,←k2,show F+(q-F)=q by omega]⟩
   obtain⟨l2,e2,h3,h4⟩:=ih t l1 (by omega) (by omega) (by rw[h1.1];omega) (by rw[h1.1];omega) (by rw[h1.1];omega) (h1.all vp) h2
    (λi j g1 g2 g3=>by
     obtain⟨i',rfl⟩:∃q,i=F+q:=⟨i-F,by omega⟩;obtain⟨j',rfl⟩:∃q,j=F+q:=⟨j-F,by omega⟩;rw[out i' (by omega),out j' (by omega),Xl j' (by omega)];by_cases hi:i'=t
     ·subst hi;rw[et];exact hM 0 j' (by omega) (by omega) (by omega)
     ·rw[Xl i' (by omega)];exact hS _ _ (by omega) (by omega) (by omega))
    (λp q g1 g2 g3=>by
     obtain⟨k',k1,k2⟩:=low p g1;rw[k2,out q (by omega)];by_cases hq:q=t
     ·subst hq;rw[et];exact mx k' k1
     ·rw[Xl q (by omega)];exact hM k' q k1 (by omega) g3)
   exact⟨l2,e2,(hp.tr (h1.up (by omega) (by omega))).tr h3,h4⟩
theorem agk{a b:Nat}{l:LP}(nJ:a<b)(hb:b≤l.length)(hl:l.length<16777216)(hm:l.length+3<m)(hA:∀x∈l,P x):
   ∃l',Ho m l (a:Int) (b:Int) sn ps st=some l'∧cE a b l l'∧kC (Lt cf) a b l':=by
 obtain⟨n,rfl⟩:∃n,b=a+n:=⟨b-a,by omega⟩;have hq:Int.tdiv (((n-1:Nat)):Int) 2=(((n-1)/2:Nat):Int):=rfl;obtain⟨l1,e1,h1,h2⟩:=agh m hc ho a n (by omega) m ((n-1)/2+1) l (by omega) (by omega) hb hl (by omega) hA (λi g1 c g2 g3=>by omega);obtain⟨l2,e2,h3,h4⟩:=agj m hc ho a n m n l1 (by omega) (dc _) (by rw[h1.1];exact hb) (by rw[h1.1];exact hl) (by rw[h1.1];omega) (h1.all hA) h2 (λi j g1 g2 g3=>by omega) (λp q g1 g2 g3=>by omega);refine⟨l2,?_,h1.tr h3,h4⟩;have x1:((((n-1)/2+1:Nat):Int)-1)=(((n-1)/2:Nat):Int):=by omega
 have x2:(((n:Nat):Int)-1)=((n-1:Nat):Int):=by omega
 rw[x1]at e1;rw[x2]at e2;rw[Ho,vo (by omega) (by omega),show a+n-a=n by omega,lX (by omega) (by omega),hq,lt_eq,Xk (by omega),e1,aW];exact e2
end
/-- What stands ahead of 'q' is not above it, what stands behind is not below it. -/
def Ah(lt:List a6→List a6→Bool)(a b q:Nat)(l:LP):Prop:=(∀k,a≤k→k<q→lt (gx l q) (gx l k)=false)∧(∀k,q<k→k<b→lt (gx l k) (gx l q)=false)
theorem Ah.left{lt:List a6→List a6→Bool}{a b q:Nat}{l l':LP}(h:Ah lt a b q l)(hp:cE a q l l')(hq:q≤l.length):Ah lt a b q l':=by
 refine⟨λk h1 h2=>?_,λk h1 h2=>?_⟩
 ·obtain⟨j,g1,g2,e⟩:=hp.was hq h1 h2;rw[e,hp.2.2 q (.inr (dc _))];exact h.1 j g1 g2
 ·rw[hp.2.2 q (.inr (dc _)),hp.2.2 k (.inr (by omega))];exact h.2 k h1 h2
theorem Ah.right{lt:List a6→List a6→Bool}{a b q:Nat}{l l':LP}(h:Ah lt a b q l)(hp:cE (q+1) b l l')(hb:b≤l.length):Ah lt a b q l':=by
 refine⟨λk h1 h2=>?_,λk h1 h2=>?_⟩
 ·rw[hp.2.2 q (.inl (by omega)),hp.2.2 k (.inl (by omega))];exact h.1 k h1 h2
 ·obtain⟨j,g1,g2,e⟩:=hp.was hb (k:=k) (by omega) h2;rw[e,hp.2.2 q (.inl (by omega))];exact h.2 j (by omega) g2
theorem Ah.glue{P:List a6→Prop}{lt:List a6→List a6→Bool}(ho:I8 P lt){a b q:Nat}{l:LP}(hA:∀x∈l,P x)(hb:b≤l.length)(hq:q<b)(h:Ah lt a b q l)(h1:kC lt a q l)(h2:kC lt (q+1) b l):kC lt a b l:=λi j g1 g2 g3=>by
 by_cases hj:j<q
 ·exact h1 i j g1 g2 hj
 ·by_cases hi:q<i
  ·exact h2 i j (by omega) g2 g3
  ·by_cases hjq:j=q
   ·subst hjq;exact h.1 i g1 g2
   ·by_cases YJ:i=q
    ·subst YJ;exact h.2 j (by omega) g3
    ·exact ho.nt _ _ _ (hA _ (fV (by omega))) (hA _ (fV (i:=q) (by omega))) (hA _ (fV (by omega))) (h.2 j (by omega) g3) (h.1 i g1 (by omega))
section
variable (m:Nat) {sn:Mi} {ps:LP} {st:List bN} {P:List a6→Prop} {cf:List a6→List a6→Int} (hc:Cm m sn ps st P cf) (ho:I8 P (Lt cf))
include hc ho
theorem agl(rec:LP→Int→Int→Int→Mi→LP→List bN→Option LP)(N:Nat)
   (Qj:∀(l:LP)(a b:Nat)(sU:Int),a≤b→b-a<N→b≤l.length→l.length<16777216→l.length+6<m→(∀x∈l,P x)→Ag (Lt cf) a b l→∃l',rec l (a:Int) (b:Int) sU sn ps st=some l'∧cE a b l l'∧kC (Lt cf) a b l'):
   ∀(kk a b:Nat)(l:LP)(sU:Int)(wb wp:Bool),b-a<kk→b-a≤N→a≤b→b≤l.length→l.length<16777216→l.length+6<m→(∀x∈l,P x)→Ag (Lt cf) a b l→
   ∃l',C9 m sn ps st rec kk l (a:Int) (b:Int) sU wb wp=some l'∧cE a b l l'∧kC (Lt cf) a b l':=by
 intro kk
 induction kk with
 |zero=>intro a b l sU wb wp h;omega
 |succ kk ih=>
  intro a b l sU wb wp hk hN nJ hb hl hm hA hH;have hB:l.length<dy:=by unfold dy;omega
  rw[C9,vo nJ (by omega)];by_cases h12:b-a≤12
  ·obtain⟨l',e,h1,h2⟩:=afS m hc ho a b l nJ hb hB (by omega) hA;rw[show decide (((b-a:Nat):Int)≤12)=true from ew (by omega),bo,e];exact⟨l',rfl,h1,h2⟩
  ·rw[show decide (((b-a:Nat):Int)≤12)=false from dt (by omega),be];cases sU==0 with
   |true=>
    obtain⟨l',e,h1,h2⟩:=agk m hc ho (a:=a) (b:=b) (l:=l) (by omega) hb hl (by omega) hA;rw[bo,e];exact⟨l',rfl,h1,h2⟩
   |false=>
    rw[be];have S1:∃(F2:Int)(l1:LP),cond (!wb) (Option.bind (EH m l (a:Int) (b:Int) sn ps st) λrc=>some (J (sU-1),rc)) (some (sU,l))=some (F2,l1)∧cE a b l l1:=by
     cases wb
     ·obtain⟨l1,e,h1⟩:=ag2 m (a:=a) (b:=b) sn ps st l (by omega) hb hl (by omega);exact⟨_,l1,by rw[ul,bo,e,aW],h1⟩
     ·exact⟨sU,l,rfl,cE.rfl' _⟩
    obtain⟨F2,l1,e1,p1⟩:=S1;obtain⟨pv,s,e2,v1,v2⟩:=afV m hc (l:=l1) (p1.all hA) (a:=a) (b:=b) (by omega) (by rw[p1.1];exact hb) (by rw[p1.1];exact hB);rw[e1,aW];dsimp only;rw[e2,aW];dsimp only;have S2:∃(p:Nat)(s':Int)(l2:LP),cond (s==2) (Option.bind (EI m l1 (a:Int) (b:Int) sn ps st) λHF=>lt (J (J ((b:Int)-1)-J ((pv:Int)-(a:Int)))) λrv=>some (rv,1,HF)) (some ((pv:Int),s,l1))=some ((p:Int),s',l2)∧cE a b l1 l2∧a≤p∧p<b:=by
     cases s==2
     ·exact⟨pv,s,l1,rfl,cE.rfl' _,v1,v2⟩
     ·obtain⟨l2,e,h1⟩:=afU m a b sn ps st l1 (by omega) (by rw[p1.1];exact hb) (by rw[p1.1];exact hB) (by rw[p1.1];omega);refine⟨(b-1)-(pv-a),1,l2,?_,h1,by omega,by omega⟩;rw[bo,e,aW,lX (by omega) (by omega),vo v1 (by omega),vo (by omega) (by omega),lt_eq]
    obtain⟨p,s',l2,e3,p2,u1,u2⟩:=S2;have F3:=p1.tr p2;rw[e3,aW];dsimp only;have hA2:=F3.all hA;have hH2:=hH.pm F3 (dc _) (dc _) hb;have S3:∃z,(lt (cond (cond wb wp false) (s'==1) false) λLq=>cond Lq (Option.bind (EK m l2 (a:Int) (b:Int) sn ps st) λzY=>cond zY.1 (some (.inl zY.2)) (some (.inr zY.2))) (some (.inr l2)))=(some z:Option (Sum LP LP))∧(match z with| .inl l3=>cE a b l2 l3∧kC (Lt cf) a b l3| .inr l3=>cE a b l2 l3):=by
     rw[lt_eq];cases cond (cond wb wp false) (s'==1) false
     ·exact⟨.inr l2,rfl,cE.rfl' _⟩
     ·obtain⟨r,l3,e,h1,h2⟩:=ag7 m hc ho (a:=a) (b:=b) (l:=l2) (by omega) (by rw[F3.1];exact hb) (by rw[F3.1];exact hB) (by rw[F3.1];exact hm) hA2 hH2;rw[bo,e,aW];cases r
      ·exact⟨.inr l3,rfl,h1⟩
      ·exact⟨.inl l3,rfl,h1,h2 rfl⟩
    obtain⟨z,e4,p3⟩:=S3;rw[e4,aW];cases z with
    |inl l3=>exact⟨l3,rfl,F3.tr p3.1,p3.2⟩
    |inr l3=>
     have p3:cE a b l2 l3:=p3;have q3:=F3.tr p3;have Qk:=q3.all hA;have hH3:=hH.pm q3 (dc _) (dc _) hb;have L3:=q3.1;show∃l',aH (decide (0<(a:Int))=true→0≤J ((a:Int)-1)∧J ((a:Int)-1)<ln l3) _=_∧_;have hx:∃x:Bool,(x=true→0<a∧Lt cf (gx l3 (a-1)) (gx l3 p)=false)∧∀{β:Type}(f:Bool→Option β),(aH (decide (0<(a:Int))=true→0≤J ((a:Int)-1)∧J ((a:Int)-1)<ln l3)<|aH (decide (0<(a:Int))=true→0≤(p:Int)∧(p:Int)<ln l3)<|Option.bind (cond (decide (0<(a:Int))) (o5 m (gi l3 (J ((a:Int)-1))) (gi l3 (p:Int)) sn ps st) (some default)) λPo=>lt (cond (decide (0<(a:Int))) (!(decide (Po<0))) false) f)=f x:=by
      by_cases ha:0<a
      ·have hw:J ((a:Int)-1)=((a-1:Nat):Int):=lX ha (by omega);refine⟨!(decide (cf (gx l3 (a-1)) (gx l3 p)<0)),λh=>⟨ha,by simpa using h⟩,λf=>?_⟩;rw[iO (λ_=>by rw[hw];unfold ln;omega),iO (λ_=>by unfold ln;omega),show decide (0<(a:Int))=true from ew (by omega),bo,hw,kB,kB,hc _ _ (Qk _ (fV (by omega))) (Qk _ (fV (by omega))),aW,lt_eq,bo]
      ·have hf:decide (0<(a:Int))=false:=dt (by omega);refine⟨false,(λh=>by cases h),λf=>?_⟩;rw[iO (λh=>by rw[hf]at h;cases h),iO (λh=>by rw[hf]at h;cases h),hf];rfl
     obtain⟨x,Ac,hx2⟩:=hx;rw[hx2];cases x with
     |true=>
      obtain⟨ha,dF⟩:=Ac rfl;obtain⟨q,l4,e5,w1,w2,p4,w3,w4⟩:=agf m hc (a:=a) (b:=b) (p:=p) (l:=l3) (by omega) (by omega) (by unfold dy;omega) (by omega) u1 u2 Qk;have q4:=q3.tr p4;have wV:=q4.all hA;have L4:=q4.1;have P4:∀k,k<l4.length→P (gx l4 k):=λk hk=>wV _ (fV hk);have low:∀k,a≤k→k<q→Lt cf (gx l4 a) (gx l4 k)=false:=λk g1 g2=>by
       by_cases hka:k=a
       ·subst hka;exact ho.ir _ (P4 _ (by omega))
       ·exact w4.1 k (by omega) g2
      have high:∀k,q≤k→k<b→Lt cf (gx l4 a) (gx l4 k)=true:=λk g1 g2=>w4.2 k (by omega) g2;have a3e:∀k,q≤k→k<b→Lt cf (gx l4 k) (gx l4 a)=false:=λk g1 g2=>ho.EY _ _ (P4 _ (by omega)) (P4 _ (by omega)) (high k g1 g2);rw[bo,e5,aW];dsimp only;obtain⟨l5,e6,p5,s5⟩:=ih q b l4 F2 wb wp (by omega) (by omega) w2 (by omega) (by omega) (by omega) wV (λ_ k g1 g2=>ho.nt _ _ _ (P4 _ (by omega)) (P4 a (by omega)) (P4 _ (by omega)) (a3e k g1 g2) (low (q-1) (by omega) (by omega)));refine⟨l5,e6,q4.tr (p5.up (by omega) (dc _)),λi j g1 g2 g3=>?_⟩;have Ql:=hH3.pm p4 (dc _) (dc _) (by omega);by_cases hj:j<q
      ·rw[p5.2.2 i (.inl (by omega)),p5.2.2 j (.inl hj)];have t1:=Ql ha j (by omega) g3;have t2:Lt cf (gx l4 (a-1)) (gx l4 a)=false:=by rw[w3,p4.2.2 (a-1) (.inl (by omega))];exact dF
       exact ho.nt _ _ _ (P4 _ (by omega)) (P4 a (by omega)) (P4 _ (by omega)) (ho.nt _ _ _ (P4 _ (by omega)) (P4 (a-1) (by omega)) (P4 _ (by omega)) t1 t2) (low i g1 (by omega))
      ·by_cases hi:i<q
       ·obtain⟨j',k1,k2,ej⟩:=p5.was (by omega) (k:=j) (by omega) g3;rw[p5.2.2 i (.inl hi),ej];exact ho.nt _ _ _ (P4 _ (by omega)) (P4 a (by omega)) (P4 _ (by omega)) (a3e j' k1 k2) (low i g1 hi)
       ·exact s5 i j (by omega) g2 g3
     |false=>
      obtain⟨q,r,l4,e5,w1,w2,p4,w3⟩:=agb m hc (a:=a) (b:=b) (p:=p) (l:=l3) (by omega) (by omega) (by unfold dy;omega) (by omega) u1 u2 Qk;have q4:=q3.tr p4;have wV:=q4.all hA;have L4:=q4.1;have hP:Ah (Lt cf) a b q l4:=⟨λk g1 g2=>ho.EY _ _ (wV _ (fV (by omega))) (wV _ (fV (by omega))) (w3.1 k g1 g2),w3.2⟩;have Ql:=hH3.pm p4 (dc _) (dc _) (by omega);rw[be,e5,aW];dsimp only;rw[lt_eq];cases decide (J ((q:Int)-(a:Int))<J ((b:Int)-(q:Int)))with
      |true=>
       rw[bo,lt_eq];obtain⟨l5,e6,p5,s5⟩:=Qj l4 a q F2 (by omega) (by omega) (by omega) (by omega) (by omega) wV (λh k g1 g2=>Ql h k g1 (by omega));have L5:=p5.1;rw[e6,aW,cq (by omega)];have Qm:=hP.left p5 (by omega);obtain⟨l6,e7,p6,s6⟩:=ih (q+1) b l5 F2 (decide (J (Int.tdiv ((b-a:Nat):Int) 8)≤J ((q:Int)-(a:Int)))) r (by omega) (by omega) (by omega) (by omega) (by omega) (by omega) (p5.all wV) (λ_ k g1 g2=>Qm.2 k (by omega) g2);refine⟨l6,e7,q4.tr ((p5.up (dc _) (by omega)).tr (p6.up (by omega) (dc _))),?_⟩;exact(Qm.right p6 (by omega)).glue ho (p6.all (p5.all wV)) (by rw[p6.1];omega) w2 (s5.out p6 (.inr (by omega))) s6
      |false=>
       rw[be,lt_eq,cq (by omega)];obtain⟨l5,e6,p5,s5⟩:=Qj l4 (q+1) b F2 (by omega) (by omega) (by omega) (by omega) (by omega) wV (λ_ k g1 g2=>hP.2 k (by omega) g2);have L5:=p5.1;rw[e6,aW];have Qm:=hP.right p5 (by omega);obtain⟨l6,e7,p6,s6⟩:=ih a q l5 F2 (decide (J (Int.tdiv ((b-a:Nat):Int) 8)≤J ((b:Int)-(q:Int)))) r (by omega) (by omega) (by omega) (by omega) (by omega) (by omega) (p5.all wV) (λh k g1 g2=>by
        rw[p5.2.2 k (.inl (by omega)),p5.2.2 (a-1) (.inl (by omega))];exact Ql h k g1 (by omega))
       refine⟨l6,e7,q4.tr ((p5.up (by omega) (dc _)).tr (p6.up (dc _) (by omega))),?_⟩;exact(Qm.left p6 (by omega)).glue ho (p6.all (p5.all wV)) (by rw[p6.1];omega) w2 s6 (s5.out p6 (.inl (by omega)))
theorem agm:∀(k:Nat)(l:LP)(a b:Nat)(sU:Int),a≤b→b-a<k→b≤l.length→l.length<16777216→l.length+6<m→(∀x∈l,P x)→Ag (Lt cf) a b l→
   ∃l',EL m k l (a:Int) (b:Int) sU sn ps st=some l'∧cE a b l l'∧kC (Lt cf) a b l':=by
 intro k
 induction k with
 |zero=>intro l a b sU h1 h2;omega
 |succ k ih=>
  intro l a b sU h1 h2 hb hl hm hA hH;exact agl m hc ho (EL m k) k ih m a b l sU true true (by omega) (by omega) h1 hb hl hm hA hH
theorem agn{l:LP}(hl:l.length<16777216)(hm:l.length+6<m)(hA:∀x∈l,P x):
   ∃l',HK m l sn ps st=some l'∧l'.Perm l∧∀i j,i<j→j<l'.length→Lt cf (gx l' j) (gx l' i)=false:=by
 obtain⟨y,e,_,_⟩:=a39 (n:=l.length) hl;obtain⟨l',e2,h1,h2⟩:=agm m hc ho m l 0 l.length (y:Int) (by omega) (by omega) (dc _) hl hm hA (λh=>by omega);refine⟨l',?_,h1.2.1,λi j g1 g2=>h2 i j (by omega) g1 (by rw[h1.1]at g2;exact g2)⟩;have e3:PA m l 0 (ln l) (y:Int) sn ps st=some l':=e2;rw[HK,show ln l=((l.length:Nat):Int)from rfl,AH (by omega) (by omega),e,aW,show PA m l 0 ((l.length:Nat):Int) (y:Int) sn ps st=some l' from e3];rfl
end
theorem a3f:∀(k n:Nat),(me k n).length≤k+1:=by
 intro k
 induction k with
 |zero=>intro n;rw[me];simp
 |succ k ih=>
  intro n;rw[me];cases Nat.blt n 10
  ·rw[be,fR];have:=ih (n/10);simp;omega
  ·rw[bo];simp
theorem a3g{n:Nat}(h:n<10):Nat.blt n 10=true:=by rw[Nat.blt_eq];exact h
theorem a3h{n:Nat}(h:¬n<10):Nat.blt n 10=false:=by
 cases hx:Nat.blt n 10 with
 |false=>rfl
 |true=>rw[Nat.blt_eq]at hx;exact absurd hx h
def Qn(s:a6):Nat:=s.foldl (λv b=>10*v+(b.toNat-48)) 0
theorem Qo{d:Nat}(h:d<10):(UInt8.ofNat (48+d)).toNat=48+d:=by
 rw[UInt8.toNat_ofNat'];exact Nat.mod_eq_of_lt (by omega)
theorem ago:∀(k n:Nat),∀b∈me k n,48≤b.toNat∧b.toNat≤57:=by
 intro k
 induction k with
 |zero=>intro n b hb;cases hb
 |succ k ih=>
  intro n b hb;rw[me]at hb;by_cases h:n<10
  ·rw[a3g h,bo,List.mem_singleton]at hb;rw[hb,Qo h];omega
  ·rw[a3h h,be,List.mem_append,List.mem_singleton]at hb;rcases hb with hb|hb
   ·exact ih _ b hb
   ·rw[hb,Qo (by omega)];omega
theorem a3i:∀(k n:Nat),n<10^k→Qn (me k n)=n:=by
 intro k
 induction k with
 |zero=>intro n h;rw[Nat.pow_zero]at h;rw[me];have:n=0:=(by omega);rw[this];rfl
 |succ k ih=>
  intro n h;rw[me];by_cases hn:n<10
  ·rw[a3g hn,bo];show 10*0+((UInt8.ofNat (48+n)).toNat-48)=n;rw[Qo hn];omega
  ·rw[a3h hn,be];have:=ih (n/10) (by rw[Nat.pow_succ]at h;omega);rw[Qn,List.foldl_append];show 10*Qn (me k (n/10))+((UInt8.ofNat (48+n%10)).toNat-48)=n;rw[this,Qo (by omega)];omega
def mF(p:List a6):a6:=p.flatMap λs=>me 20 s.length++(58::s)
theorem LS(s:a6)(p:List a6):mF (s::p)=me 20 s.length++(58::(s++mF p)):=by simp[mF]
theorem agp:∀(A B X Y:a6),(∀b∈A,b≠58)→(∀b∈B,b≠58)→A++(58::X)=B++(58::Y)→A=B∧X=Y:=by
 intro A
 induction A with
 |nil=>
  intro B X Y hA hB h;cases B with
  |nil=>exact⟨rfl,(List.cons.inj h).2⟩
  |cons b B=>exact absurd (List.cons.inj h).1.symm (hB b (List.mem_cons_self ..))
 |cons a A ih=>
  intro B X Y hA hB h;cases B with
  |nil=>exact absurd (List.cons.inj h).1 (hA a (List.mem_cons_self ..))
  |cons b B=>
   obtain⟨h1,h2⟩:=List.cons.inj h;obtain⟨h3,h4⟩:=ih B X Y (λx hx=>hA x (List.mem_cons_of_mem _ hx)) (λx hx=>hB x (List.mem_cons_of_mem _ hx)) h2;exact⟨by rw[h1,h3],h4⟩
theorem a3j(n:Nat):∀b∈me 20 n,b≠58:=λb hb e=>by
 have:=ago 20 n b hb;rw[e]at this;have:(58:UInt8).toNat=58:=rfl;omega
theorem agq:∀(p q:List a6),(∀s∈p,s.length<10^20)→(∀s∈q,s.length<10^20)→mF p=mF q→p=q:=by
 intro p
 induction p with
 |nil=>
  intro q hp hq h;cases q with
  |nil=>rfl
  |cons t q=>rw[LS]at h;exact absurd (congrArg List.length h) (by simp[mF])
 |cons s p ih=>
  intro q hp hq h;cases q with
  |nil=>rw[LS]at h;exact absurd (congrArg List.length h) (by simp[mF])
  |cons t q=>
   rw[LS,LS]at h;obtain⟨h1,h2⟩:=agp _ _ _ _ (a3j _) (a3j _) h;have hl:s.length=t.length:=by
    have:=congrArg Qn h1;rwa [a3i 20 _ (hp s (List.mem_cons_self ..)),a3i 20 _ (hq t (List.mem_cons_self ..))]at this
   obtain⟨h3,h4⟩:=List.append_inj h2 hl;rw[h3,ih q (λx hx=>hp x (List.mem_cons_of_mem _ hx)) (λx hx=>hq x (List.mem_cons_of_mem _ hx)) h4]
/-- How much a path takes. -/
def kY(p:List a6):Nat:=(p.map λs=>s.length+30).sum
theorem F4(s:a6)(p:List a6):kY (s::p)=s.length+30+kY p:=by simp[kY]
theorem Xm(p:List a6):p.length≤kY p:=by
 induction p with
 |nil=>exact iW _
 |cons s p ih=>rw[F4,fD];omega
theorem a3k{p:List a6}{s:a6}(h:s∈p):s.length≤kY p:=by
 induction p with
 |nil=>cases h
 |cons t p ih=>
  rw[F4];rcases List.mem_cons.1 h with rfl|h
  ·omega
  ·have:=ih h;omega
theorem agr(p:List a6)(k:Nat):kY (p.take k)≤kY p:=by
 induction p generalizing k with
 |nil=>simp
 |cons s p ih=>
  cases k with
  |zero=>simp[kY]
  |succ k=>rw[List.take_succ_cons,F4,F4];have:=ih k;omega
theorem ags(m:Nat)(path:List a6)(uc:path.length<1000000000000):∀(kk i:Nat)(acc:a6),path.length-i<kk→i≤path.length→acc.length+kY (path.drop i)<1000000000000→
   Ha m path kk acc (i:Int)=some (acc++mF (path.drop i)):=by
 intro kk
 induction kk with
 |zero=>intro i acc h;omega
 |succ kk ih=>
  intro i acc hk hi hs;rw[Ha];by_cases h:i<path.length
  ·have hd:=rX h;have hg:gi path (i:Int)=path[i]:=l9 path i h;have e:path.drop i=path[i]::path.drop (i+1):=hd;rw[e,F4]at hs;have aiY:=a3f 20 path[i].length;have hp:=Xm path;have hI:AG (ln path[i])=some (me 20 path[i].length):=by
    unfold AG;rw[bS (by unfold ln;omega),IR,show decide (ln path[i]<0)=false from dt (by unfold ln;omega),be];rfl
   have hl2:=Xm (path.drop (i+1));rw[jP h,bo,gV h,hg,hI,aW,bS (by simp only[ln,fD,il];omega),bS (by simp only[ln,fR,fD,il];omega),bS (by simp only[ln,fR,fD,il];omega),
    cq (by omega),ih (i+1) _ (by omega) (by omega) (by simp only[fR,fD,il];omega),e,LS]
   simp
  ·have he:i=path.length:=by omega
   subst he;rw[iQ (dc _),be,List.drop_length];simp[mF]
theorem Xn(m:Nat)(path:List a6)(hs:kY path<1000000000000)(hm:path.length<m):xR m path=some (mF path):=by
 have:=ags m path (by have:=Xm path;omega) m 0 [] (by omega) (iW _) (by simpa using hs);rw[xR];have e:Ha m path m [] 0=some (mF path):=this;rw[e];rfl
abbrev SZ:Nat:=1000000000
abbrev LN:Nat:=1090000
def en:Nat→LP→Mi
 |_,[]=>[]
 |i,p::r=>(mF p,(i:Int))::en (i+1) r
theorem agt:∀(a:LP)(i:Nat)(p:List a6),en i (a++[p])=en i a++[(mF p,((i+a.length:Nat):Int))]:=by
 intro a
 induction a with
 |nil=>intro i p;rfl
 |cons q a ih=>intro i p;rw[List.cons_append,en,en,ih,List.cons_append,fD,show i+1+a.length=i+(a.length+1) by omega]
abbrev Ok(p:List a6):Prop:=kY p<SZ∧p.length<LN
theorem Ok.key{p q:List a6}(hp:Ok p)(hq:Ok q)(h:mF p=mF q):p=q:=
 agq p q (λs hs=>by have:=a3k hs;have hp:=hp.1;unfold SZ at hp;have:(1000000000:Nat)<10^20:=(by decide);omega) (λs hs=>by have:=a3k hs;have hq:=hq.1;unfold SZ at hq;have:(1000000000:Nat)<10^20:=(by decide);omega) h
theorem a3l{p q:List a6}(hp:Ok p)(hq:Ok q):(mF p==mF q)=decide (p=q):=by
 by_cases h:p=q
 ·rw[h,beq_self_eq_true,ew rfl]
 ·rw[rW.2 (λe=>h (hp.key hq e)),dt h]
theorem agu:∀(ps:LP)(i:Nat)(q:List a6),(∀p∈ps,Ok p)→Ok q→qQ (en i ps) (mF q)=decide (q∈ps):=by
 intro ps
 induction ps with
 |nil=>intro i q h hq;rfl
 |cons p r ih=>
  intro i q h hq;rw[en,qQ,ih (i+1) q (λx hx=>h x (List.mem_cons_of_mem _ hx)) hq,a3l hq (h p (List.mem_cons_self ..))];by_cases e:q=p<;>simp[e]
theorem a3m:∀(ps:LP)(i:Nat)(q:List a6),(∀p∈ps,Ok p)→Ok q→q∈ps→rU (en i ps) (mF q)=((i+ps.idxOf q:Nat):Int):=by
 intro ps
 induction ps with
 |nil=>intro i q h hq hm;cases hm
 |cons p r ih=>
  intro i q h hq hm;rw[en,rU,a3l hq (h p (List.mem_cons_self ..)),List.idxOf_cons];by_cases e:q=p
  ·subst e;rw[ew rfl,bo,beq_self_eq_true];simp
  ·rw[dt e,be,ih (i+1) q (λx hx=>h x (List.mem_cons_of_mem _ hx)) hq ((List.mem_cons.1 hm).resolve_left e),show(p==q)=false from rW.2 (λx=>e x.symm),be];congr 1;omega
structure Tv(sn:Mi)(ps:LP):Prop where
 eq:sn=en 0 ps
 nd:ps.Nodup
 ne:∀p∈ps,p≠[]
 pre:∀p∈ps,∀k,0<k→k≤p.length→p.take k∈ps
 sz:∀p∈ps,Ok p
theorem Ok.take{p:List a6}(h:Ok p)(k:Nat):Ok (p.take k):=⟨Nat.lt_of_le_of_lt (agr p k) h.1,by rw[List.length_take];have:=h.2;omega⟩
theorem Ok.len{p:List a6}(h:Ok p):p.length<LN:=h.2
theorem Ib(p:List a6)(k:Nat):ff p (0:Int) (k:Int)=p.take k:=by
 rw[ff];simp
theorem Tv.nil:Tv [] []:=⟨rfl,List.nodup_nil,(λ_ h=>by cases h),(λ_ h=>by cases h),(λ_ h=>by cases h)⟩
theorem agv(m:Nat)(path:List a6)(hp:Ok path)(hm:LN<m):∀(kk i:Nat)(sn:Mi)(ps:LP),path.length-i<kk→i≤path.length→Tv sn ps→ps.length+(path.length-i)<SZ→(∀k,0<k→k≤i→path.take k∈ps)→
   ∃t gr,L6 m path kk (i:Int) ps sn=some (ps++t,gr)∧Tv gr (ps++t)∧(∀c,(∀k,0<k→k≤c→path.take k∈ps)→t.length≤path.length-max i c)∧∀k,0<k→k≤path.length→path.take k∈ps++t:=by
 intro kk
 induction kk with
 |zero=>intro i sn ps h;omega
 |succ kk ih=>
  intro i sn ps hk hi hT hs LU;rw[L6];have hl:=hp.len;by_cases h:i<path.length
  ·have hq:=hp.take (i+1);have agw:xR m (path.take (i+1))=some (mF (path.take (i+1))):=Xn m _ (by have:=hq.1;unfold SZ at this;omega) (by have:=hq.len;omega);rw[jP h,bo,cq (by unfold LN at hl;omega),bS (by unfold ln;omega),Ib,lt_eq,agw,aW,lt_eq,lt_eq,hT.eq,agu _ _ _ hT.sz hq];by_cases qJ:path.take (i+1)∈ps
   ·rw[ew qJ,px,be,aW];dsimp only;rw[←hT.eq];obtain⟨t,gr,e,h1,h2,h3⟩:=ih (i+1) sn ps (by omega) (by omega) hT (by omega) (λk g1 g2=>by
     by_cases hk:k=i+1
     ·rw[hk];exact qJ
     ·exact LU k g1 (by omega))
    exact⟨t,gr,e,h1,(λc hc=>by
     have:=h2 (max c (i+1)) (λk g1 g2=>by
      by_cases hk:k≤c
      ·exact hc k g1 hk
      ·by_cases ym:k=i+1
       ·rw[ym];exact qJ
       ·exact LU k g1 (by omega))
     omega),h3⟩
   ·have xb:L2 (path.take (i+1))=some (path.take (i+1)):=by
     rw[L2,bS (by have:=hq.len;unfold LN at this;simp only[ln,il];omega),lt_eq];rfl
    rw[dt qJ,ul,bo,bS rfl,lt_eq,xb,aW,bS (by unfold SZ at hs;simp only[ln,fD,il];omega),lt_eq,aW];dsimp only;have CW:Tv (en 0 ps++[(mF (path.take (i+1)),ln ps)]) (ps++[path.take (i+1)]):=by
     refine⟨?_,?_,?_,?_,?_⟩
     ·rw[agt,Nat.zero_add];rfl
     ·rw[List.nodup_append];exact⟨hT.nd,by simp,λa ha b hb e=>qJ (by rw[List.mem_singleton]at hb;rw[←hb,←e];exact ha)⟩
     ·intro p LW;rcases List.mem_append.1 LW with h'|h'
      ·exact hT.ne p h'
      ·rw[List.mem_singleton]at h';rw[h'];intro e;have:=congrArg List.length e;rw[List.length_take,il]at this;omega
     ·intro p LW k g1 g2;rcases List.mem_append.1 LW with h'|h'
      ·exact List.mem_append.2 (.inl (hT.pre p h' k g1 g2))
      ·rw[List.mem_singleton]at h';subst h';rw[List.length_take]at g2;rw[List.take_take,Nat.min_eq_left (by omega)];by_cases hk:k=i+1
       ·rw[hk];exact List.mem_append.2 (.inr (List.mem_singleton.2 rfl))
       ·exact List.mem_append.2 (.inl (LU k g1 (by omega)))
     ·intro p LW;rcases List.mem_append.1 LW with h'|h'
      ·exact hT.sz p h'
      ·rw[List.mem_singleton]at h';rw[h'];exact hq
    obtain⟨t,gr,e,h1,h2,h3⟩:=ih (i+1) _ _ (by omega) (by omega) CW (by rw[fR,List.length_singleton];omega) (λk g1 g2=>by
     by_cases hk:k=i+1
     ·rw[hk];exact List.mem_append.2 (.inr (List.mem_singleton.2 rfl))
     ·exact List.mem_append.2 (.inl (LU k g1 (by omega))))
    rw[yA]at e h1 h3;exact⟨[path.take (i+1)]++t,gr,e,h1,(λc hc=>by
     have hci:c≤i:=by
      rcases Nat.lt_or_ge i c with g|g
      ·exact absurd (hc (i+1) (by omega) (by omega)) qJ
      ·exact g
     have:=h2 0 (λk g1 g2=>by omega);rw[fR,List.length_singleton];omega),h3⟩
  ·have he:i=path.length:=by omega
   subst he;rw[iQ (dc _),be];exact⟨[],sn,by rw[List.append_nil],by rw[List.append_nil];exact hT,(λc hc=>by simp),by rw[List.append_nil];exact LU⟩
theorem a3n(m:Nat){path:List a6}(hp:Ok path)(hm:LN<m){sn:Mi}{ps:LP}(st:List bN)(hT:Tv sn ps)(hs:ps.length+path.length<SZ):
   ∃t gr,Hc m path sn ps st=some (ps++t,gr)∧Tv gr (ps++t)∧(∀c,(∀k,0<k→k≤c→path.take k∈ps)→t.length≤path.length-c)∧∀k,0<k→k≤path.length→path.take k∈ps++t:=by
 have hl:=hp.len;obtain⟨t,gr,e,h1,h2,h3⟩:=agv m path hp hm m 0 sn ps (by omega) (iW _) hT (by omega) (λk g1 g2=>by omega);exact⟨t,gr,e,h1,(λc hc=>by have:=h2 c hc;omega),h3⟩
theorem a3o(m:Nat)(a b:List a6)(h:a.length+b.length<SZ)(hm:3<m):Ev m ([a,b]:List (List a6))=some (a++b):=by
 obtain⟨k,rfl⟩:∃k,m=k+3:=⟨m-3,by omega⟩;have w:∀n:Nat,n<SZ→J (n:Int)=(n:Int):=λn hn=>by unfold SZ at hn;exact Xk (by omega)
 unfold SZ at h;have e1:Eu (k+3) [a,b] (k+3) 0 0=some ((a.length+b.length:Nat):Int):=by
  have x1:J ((0:Int)+ln (gi [a,b] 0))=(a.length:Int):=by show J ((0:Int)+(a.length:Int))=_;rw[Int.zero_add,Xk (by omega)]
  have x2:J ((a.length:Int)+ln (gi [a,b] 1))=((a.length+b.length:Nat):Int):=by show J ((a.length:Int)+(b.length:Int))=_;rw[Af (by omega)]
  rw[Eu,show decide ((0:Int)<ln [a,b])=true from rfl,bo,bS (by show(0:Int)≤0∧(0:Int)<((2:Nat):Int);omega),x1,lt_eq,show decide ((a.length:Int)<0)=false from dt (by omega),be,
   Eu,show J ((0:Int)+1)=1 from by decide,show decide ((1:Int)<ln [a,b])=true from rfl,bo,bS (by show(0:Int)≤1∧(1:Int)<((2:Nat):Int);omega),x2,lt_eq,show decide (((a.length+b.length:Nat):Int)<0)=false from dt (by omega),be,
   Eu,show J ((1:Int)+1)=2 from by decide,show decide ((2:Int)<ln [a,b])=false from rfl,be]
 have e2:BW (k+3) [a,b] (k+3) [] 0=some (a++b):=by
  rw[BW,show decide ((0:Int)<ln [a,b])=true from rfl,bo,bS (by show(0:Int)≤0∧(0:Int)<((2:Nat):Int);omega),bS (by show((0:Nat):Int)+(a.length:Int)≤_;omega),lt_eq,
   BW,show J ((0:Int)+1)=1 from by decide,show decide ((1:Int)<ln [a,b])=true from rfl,bo,bS (by show(0:Int)≤1∧(1:Int)<((2:Nat):Int);omega),bS (by show(((([]:List a6)++a).length:Nat):Int)+(b.length:Int)≤_;rw[List.nil_append];omega),lt_eq,
   BW,show J ((1:Int)+1)=2 from by decide,show decide ((2:Int)<ln [a,b])=false from rfl,be]
  rfl
 rw[Ev,e1,aW,OS,bS (by omega),lt_eq,aW];show Option.bind (BW (k+3) [a,b] (k+3) [] 0) _=_;rw[e2,aW]
def lx:List Nat→List Nat→Bool
 |[],[]=>false
 |[],_::_=>true
 |_::_,[]=>false
 |x::xs,y::ys=>decide (x<y)||x==y&&lx xs ys
theorem Xo:∀a,lx a a=false
 |[]=>rfl
 |x::a=>by rw[lx,Xo a];simp
theorem a3p:∀a b,lx a b=true→lx b a=false
 |[],[],h=>by cases h
 |[],_::_,_=>rfl
 |_::_,[],h=>by cases h
 |x::a,y::b,h=>by
  rw[lx]at h⊢;simp only[Bool.or_eq_true,decide_eq_true_eq,Bool.and_eq_true,beq_iff_eq]at h;rcases h with h|⟨rfl,h⟩
  ·rw[dt (by omega),rW.2 (by omega)];rfl
  ·rw[a3p a b h];simp
theorem a3q:∀a b c,lx a b=false→lx b c=false→lx a c=false
 |[],[],_,_,h=>h
 |[],_::_,_,h,_=>by cases h
 |_::_,_,[],_,_=>rfl
 |x::a,[],z::c,_,h=>by cases h
 |x::a,y::b,z::c,h,h'=>by
  rw[lx]at h h'⊢;simp only[ZH,decide_eq_false_iff_not,Bool.and_eq_false_imp,beq_iff_eq]at h h'⊢;refine⟨by omega,λe=>?_⟩;exact a3q a b c (h.2 (by omega)) (h'.2 (by omega))
/-- Where the parts of a path were seen, from part 'i' on; then what is greater than all. -/
def sg(ps:LP)(a:List a6):Nat→Nat→List Nat
 |0,_=>[ps.length]
 |k+1,i=>ps.idxOf (a.take (i+1))::sg ps a k (i+1)
def Xp(ps:LP)(a:List a6):List Nat:=sg ps a a.length 0
def vq(ps:LP)(a b:List a6):Nat→Nat→Int
 |0,_=>(b.length:Int)-(a.length:Int)
 |k+1,i=>cond (gi a (i:Int)==gi b (i:Int)) (vq ps a b k (i+1)) ((ps.idxOf (a.take (i+1)):Int)-(ps.idxOf (b.take (i+1)):Int))
def CF(ps:LP)(a b:List a6):Int:=vq ps a b (min a.length b.length) 0
theorem a3r{a b:List a6}{i:Nat}(h:a.take i=b.take i)(ha:i<a.length)(hb:i<b.length):(gi a (i:Int)==gi b (i:Int))=decide (a.take (i+1)=b.take (i+1)):=by
 have e1:a.take (i+1)=a.take i++[a[i]]:=List.take_succ_eq_append_getElem ha;have e2:b.take (i+1)=b.take i++[b[i]]:=List.take_succ_eq_append_getElem hb;rw[e1,e2,h,l9 a i ha,l9 b i hb];by_cases e:a[i]=b[i]
 ·rw[e];simp
 ·rw[rW.2 e,dt (λx=>e (List.cons.inj (List.append_cancel_left x)).1)]
theorem a3s{ps:LP}{x y:List a6}(hx:x∈ps)(h:ps.idxOf x=ps.idxOf y):x=y:=by
 have h1:=List.idxOf_lt_length_of_mem hx;have e1:ps[ps.idxOf x]=x:=List.getElem_idxOf h1;have h2:ps.idxOf y<ps.length:=by rw[←h];exact h1
 have e2:ps[ps.idxOf y]=y:=List.getElem_idxOf h2;rw[←e1,←e2];simp only[h]
theorem agx{sn:Mi}{ps:LP}(hT:Tv sn ps){a b:List a6}(ha:a∈ps)(hb:b∈ps):∀(k i:Nat),i+k=min a.length b.length→a.take i=b.take i→
   decide (vq ps a b k i<0)=lx (sg ps a (a.length-i) i) (sg ps b (b.length-i) i):=by
 intro k
 induction k with
 |zero=>
  intro i hk ht;rw[vq];by_cases h1:i<a.length
  ·obtain⟨n,hn⟩:∃n,a.length-i=n+1:=⟨a.length-i-1,by omega⟩;rw[hn,show b.length-i=0 by omega,sg,sg,lx];have:=List.idxOf_lt_length_of_mem (hT.pre a ha (i+1) (by omega) (by omega));rw[ew (by omega),ew this];rfl
  ·by_cases h2:i<b.length
   ·obtain⟨n,hn⟩:∃n,b.length-i=n+1:=⟨b.length-i-1,by omega⟩;rw[hn,show a.length-i=0 by omega,sg,sg,lx];have:=List.idxOf_lt_length_of_mem (hT.pre b hb (i+1) (by omega) (by omega));rw[dt (by omega),dt (by omega),rW.2 (by omega)];rfl
   ·rw[show a.length-i=0 by omega,show b.length-i=0 by omega,sg,sg,Xo,dt (by omega)]
 |succ k ih=>
  intro i hk ht;obtain⟨n,hn⟩:∃n,a.length-i=n+1:=⟨a.length-i-1,by omega⟩;obtain⟨n',Mz⟩:∃n,b.length-i=n+1:=⟨b.length-i-1,by omega⟩;rw[vq,hn,Mz,sg,sg,lx,a3r ht (by omega) (by omega)];by_cases e:a.take (i+1)=b.take (i+1)
  ·rw[ew e,bo,ih (i+1) (by omega) e,e,show a.length-(i+1)=n by omega,show b.length-(i+1)=n' by omega,dt (by omega),beq_self_eq_true];rfl
  ·have hQ:ps.idxOf (a.take (i+1))≠ps.idxOf (b.take (i+1)):=λx=>e (a3s (hT.pre a ha (i+1) (by omega) (by omega)) x);rw[dt e,be,rW.2 hQ,Bool.false_and,Bool.or_false];by_cases dF:ps.idxOf (a.take (i+1))<ps.idxOf (b.take (i+1))
   ·rw[ew dF,ew (by omega)]
   ·rw[dt dF,dt (by omega)]
theorem CG{sn:Mi}{ps:LP}(hT:Tv sn ps){a b:List a6}(ha:a∈ps)(hb:b∈ps):Lt (CF ps) a b=lx (Xp ps a) (Xp ps b):=
 agx hT ha hb _ 0 (by omega) rfl
theorem agy{sn:Mi}{ps:LP}(hT:Tv sn ps):I8 (· ∈ps) (Lt (CF ps)) where
 ir:=λx hx=>by rw[CG hT hx hx];exact Xo _
 EY:=λx y hx hy h=>by rw[CG hT hx hy]at h;rw[CG hT hy hx];exact a3p _ _ h
 nt:=λx y z hx hy hz h h'=>by
  rw[CG hT hx hy]at h;rw[CG hT hy hz]at h';rw[CG hT hx hz];exact a3q _ _ _ h h'
theorem agz(m:Nat){sn:Mi}{ps:LP}(hT:Tv sn ps)(hm:LN<m)(Ai:ps.length<SZ){a b:List a6}(ha:a∈ps)(hb:b∈ps):∀(k kk i:Nat),i+k=min a.length b.length→k<kk→
   ∃z,EB m a b sn kk (i:Int)=some z∧di z (λ_=>some (J (ln b-ln a)))=some (vq ps a b k i):=by
 have oa:=hT.sz a ha;have ob:=hT.sz b hb;have la:=oa.len;have lb:=ob.len;unfold LN at la lb;unfold SZ at Ai;have a3t:(if ln b<ln a then ln b else ln a)=((min a.length b.length:Nat):Int):=by
  unfold ln;by_cases h:b.length<a.length
  ·rw[if_pos (by omega)];omega
  ·rw[if_neg (by omega)];omega
 intro k
 induction k with
 |zero=>
  intro kk i hi hk;obtain⟨kk,rfl⟩:∃q,kk=q+1:=⟨kk-1,by omega⟩;rw[EB,a3t,show decide ((i:Int)<((min a.length b.length:Nat):Int))=false from dt (by omega),lt_eq,be];refine⟨_,rfl,?_⟩;show some (J ((b.length:Int)-(a.length:Int)))=some (vq ps a b 0 i);rw[vq,nn (by omega) (by omega)]
 |succ k ih=>
  intro kk i hi hk;obtain⟨kk,rfl⟩:∃q,kk=q+1:=⟨kk-1,by omega⟩;have h1:i<a.length:=by omega
  have h2:i<b.length:=by omega
  rw[EB,a3t,show decide ((i:Int)<((min a.length b.length:Nat):Int))=true from ew (by omega),lt_eq,bo,gV h1,gV h2,vq];cases gi a (i:Int)==gi b (i:Int)
  ·have ka:xR m (a.take (i+1))=some (mF (a.take (i+1))):=Xn m _ (by have:=(oa.take (i+1)).1;unfold SZ at this;omega) (by have:=(oa.take (i+1)).len;omega);have kb:xR m (b.take (i+1))=some (mF (b.take (i+1))):=Xn m _ (by have:=(ob.take (i+1)).1;unfold SZ at this;omega) (by have:=(ob.take (i+1)).len;omega);have ma:=hT.pre a ha (i+1) (by omega) (by omega);have mb:=hT.pre b hb (i+1) (by omega) (by omega);have ia:=List.idxOf_lt_length_of_mem ma;have ib:=List.idxOf_lt_length_of_mem mb;rw[ul,bo,cq (by omega),bS (by unfold ln;omega),Ib,lt_eq,ka,aW,lt_eq,lt_eq,bS (by unfold ln;omega),Ib,lt_eq,kb,aW,lt_eq,lt_eq,hT.eq,a3m _ _ _ hT.sz (oa.take _) ma,a3m _ _ _ hT.sz (ob.take _) mb];refine⟨_,rfl,?_⟩;show some (J (((0+ps.idxOf (a.take (i+1)):Nat):Int)-((0+ps.idxOf (b.take (i+1)):Nat):Int)))=_;rw[nn (by omega) (by omega),be,Nat.zero_add,Nat.zero_add]
  ·rw[px,be,bo,cq (by omega)];exact ih kk (i+1) (by omega) (by omega)
theorem agA(m:Nat){sn:Mi}{ps:LP}(hT:Tv sn ps)(hm:LN<m)(Ai:ps.length<SZ)(pp:LP)(st:List bN):Cm m sn pp st (· ∈ps) (CF ps):=λa b ha hb=>by
 have la:=(hT.sz a ha).len;obtain⟨z,e,h⟩:=agz m hT hm Ai ha hb (min a.length b.length) m 0 (by omega) (by omega);have e':EB m a b sn m 0=some z:=e;rw[o5,e',aW];exact h
/-- The order: all paths, each before what follows it in the order. -/
theorem agB(m:Nat){sn:Mi}{ps:LP}(hT:Tv sn ps)(hm:LN<m)(Ai:ps.length<16777216)(LR:ps.length+6<m)(st:List bN):
   ∃l,HM m sn ps st=some l∧l.Perm ps∧∀i j,i<j→j<l.length→Lt (CF ps) (gx l j) (gx l i)=false:=by
 have xb:Lg ps=some ps:=by
  rw[Lg,bS (by simp only[ln,il];omega),lt_eq];rfl
 obtain⟨l,e,h1,h2⟩:=agn m (sn:=sn) (ps:=ps) (st:=st) (agA m hT hm (by unfold SZ;omega) ps st) (agy hT) (l:=ps) Ai LR (λx hx=>hx);exact⟨l,by rw[HM,xb,aW,e];rfl,h1,h2⟩
theorem agC(m:Nat)(a b:List a6)(h:a.length=b.length)(hl:a.length<LN):∀(kk i:Nat),a.length-i<kk→i≤a.length→a.take i=b.take i→
   ∃z,I0 m a b kk (i:Int)=some z∧di z (λ_=>some true)=some (decide (a=b)):=by
 unfold LN at hl;intro kk
 induction kk with
 |zero=>intro i h;omega
 |succ kk ih=>
  intro i hk hi ht;rw[I0];by_cases kZ:i<a.length
  ·rw[jP (by omega),bo,gV kZ,gV (by omega),a3r ht kZ (by omega)];by_cases e:a.take (i+1)=b.take (i+1)
   ·rw[ew e,px,be,cq (by omega)];exact ih (i+1) (by omega) (by omega) e
   ·rw[dt e,ul,bo];exact⟨_,rfl,by rw[dt (λx=>e (by rw[x]))];rfl⟩
  ·rw[iQ (by omega),be];rw[List.take_of_length_le (by omega),List.take_of_length_le (by omega)]at ht;exact⟨_,rfl,by rw[ew ht];rfl⟩
theorem a3u(m:Nat){a b:List a6}(ha:a.length<LN)(hb:b.length<LN)(hm:LN<m):I1 m [a] [b]=some (decide (a=b)):=by
 obtain⟨k,rfl⟩:∃k,m=k+2:=⟨m-2,by unfold LN at hm;omega⟩;rw[I1,show(ln [a] !=ln [b])=false from rfl,be,LA,show decide ((0:Int)<ln [a])=true from rfl,bo,bS (by show(0:Int)≤0∧(0:Int)<((1:Nat):Int);omega),bS (by show(0:Int)≤0∧(0:Int)<((1:Nat):Int);omega),show gi [a] 0=a from rfl,show gi [b] 0=b from rfl];by_cases h:a.length=b.length
 ·rw[show(ln a !=ln b)=false from by unfold ln;rw[h];exact bne_self_eq_false _,be];obtain⟨z,e,hz⟩:=agC (k+2) a b h ha (k+2) 0 (by unfold LN at ha hm;omega) (iW _) rfl;have e':I0 (k+2) a b (k+2) 0=some z:=e;rw[Q1,show decide (ln a<ln b)=false from dt (by unfold ln;omega),be,e',aW,hz,aW,lt_eq,be];cases decide (a=b)
  ·rfl
  ·rw[px,be,show J ((0:Int)+1)=1 from by decide,LA,show decide ((1:Int)<ln [a])=false from rfl,be];rfl
 ·rw[show(ln a !=ln b)=true from bne_iff_ne.2 (by unfold ln;omega),bo,dt (λx=>h (by rw[x]))];rfl
theorem agD(m:Nat)(l:LP)(s:List a6)(hs:s.length<LN)(hA:∀x∈l,x.length<LN)(hl:l.length<SZ)(hlm:l.length<m)(hm:LN<m)(qJ:s∈l):∀(kk i:Nat),l.length-i<kk→i≤l.idxOf s→
   I2 m l s kk (i:Int)=some (.inl ((l.idxOf s:Nat):Int)):=by
 have hx:=List.idxOf_lt_length_of_mem qJ;unfold SZ at hl;intro kk
 induction kk with
 |zero=>intro i h;omega
 |succ kk ih=>
  intro i hk hi;have Qp:i<l.length:=by omega
  rw[I2,jP Qp,bo,gV Qp,l9 l i Qp,a3u m (hA _ (List.getElem_mem Qp)) hs hm,aW];by_cases e:l[i]=s
  ·rw[ew e,bo];have:l.idxOf s≤i:=by
    rcases Nat.lt_or_ge i (l.idxOf s)with h|h
    ·exact absurd e (by simpa using List.not_of_lt_findIdx (p:=(· ==s)) (xs:=l) h)
    ·exact h
   rw[show i=l.idxOf s by omega]
  ·rw[dt e,be,cq (by omega)];have hQ:i≠l.idxOf s:=λx=>e (by have:=List.getElem_idxOf hx;simp only[←x]at this;exact this);exact ih (i+1) (by omega) (by omega)
theorem a3v(m:Nat){l:LP}{s:List a6}(hs:s.length<LN)(hA:∀x∈l,x.length<LN)(hl:l.length<SZ)(hlm:l.length<m)(hm:LN<m)(qJ:s∈l):I3 m l s=some ((l.idxOf s:Nat):Int):=by
 have:=agD m l s hs hA hl hlm hm qJ m 0 (by omega) (iW _);have e:I2 m l s m 0=some (.inl ((l.idxOf s:Nat):Int)):=this;rw[I3,e];rfl
theorem agE(ps:LP)(a:List a6)(n:Nat)(hn:n<a.length):∀(k i:Nat),i+k=n→vq ps a (a.take n) k i=(n:Int)-(a.length:Int):=by
 intro k
 induction k with
 |zero=>intro i hk;rw[vq,List.length_take,Nat.min_eq_left (by omega)]
 |succ k ih=>
  intro i hk;have:(gi a (i:Int)==gi (a.take n) (i:Int))=true:=by
   rw[l9 a i (by omega),l9 _ i (by simp;omega),List.getElem_take];exact beq_self_eq_true _
  rw[vq,this,bo,ih (i+1) (by omega)]
theorem agF(ps:LP)(a:List a6)(n:Nat)(hn:n<a.length):Lt (CF ps) a (a.take n)=true:=by
 have:=agE ps a n hn n 0 (by omega);rw[Lt,CF,show min a.length (a.take n).length=n by simp;omega,this];exact ew (by omega)
theorem btw{sn:Mi}{ps:LP}(hT:Tv sn ps){a x:List a6}{n:Nat}(ha:a∈ps)(hx:x∈ps)(hn:n+1=a.length)(Ay:0<n):∀(k i:Nat),i+k=n→x.take i=a.take i→i≤x.length→
   lx (sg ps x (x.length-i) i) (sg ps a (a.length-i) i)=false→lx (sg ps (a.take n) (n-i) i) (sg ps x (x.length-i) i)=false→x.take n=a.take n∧n≤x.length:=by
 intro k
 induction k with
 |zero=>intro i hk ht hi _ _;rw[show i=n by omega]at ht hi;exact⟨ht,hi⟩
 |succ k ih=>
  intro i hk ht hi h1 h2;obtain⟨q,hq⟩:∃q,n-i=q+1:=⟨n-i-1,by omega⟩;obtain⟨r,hr⟩:∃r,a.length-i=r+1:=⟨a.length-i-1,by omega⟩;have hto:(a.take n).take (i+1)=a.take (i+1):=by rw[List.take_take,Nat.min_eq_left (by omega)]
  have ma:=hT.pre a ha (i+1) (by omega) (by omega);have ia:=List.idxOf_lt_length_of_mem ma;by_cases oe:i<x.length
  ·obtain⟨p,hp⟩:∃p,x.length-i=p+1:=⟨x.length-i-1,by omega⟩;rw[hp,hr,sg,sg,lx]at h1;rw[hq,hp,sg,sg,lx,hto]at h2;simp only[ZH,decide_eq_false_iff_not,Bool.and_eq_false_imp,beq_iff_eq]at h1 h2;have e:ps.idxOf (x.take (i+1))=ps.idxOf (a.take (i+1)):=by omega
   have et:=a3s (hT.pre x hx (i+1) (by omega) (by omega)) e;exact ih (i+1) (by omega) et (by omega) (by rw[show x.length-(i+1)=p by omega,show a.length-(i+1)=r by omega];exact h1.2 e) (by rw[show n-(i+1)=q by omega,show x.length-(i+1)=p by omega];exact h2.2 e.symm)
  ·rw[hq,show x.length-i=0 by omega,sg,sg,lx,hto,ew ia]at h2;cases h2
section
variable (m:Nat) {sn:Mi} {ps l:LP} (hT:Tv sn ps) (hm:LN<m) (Ai:ps.length<16777216) (LR:ps.length<m) (hp:l.Perm ps) (hs:∀i j,i<j→j<l.length→Lt (CF ps) (gx l j) (gx l i)=false)
include hT hm Ai hp hs
theorem agG{i j n:Nat}(hi:i<l.length)(hj:j<l.length)(hn:n+1=(gx l i).length)(Ay:0<n)(hjo:gx l j=(gx l i).take n):∀(kk k:Nat),j-k<kk→i<k→k≤j→
   LB m (l,0) (i:Int) (j:Int) kk (k:Int)=some (.inr ()):=by
 have hlen:=hp.length_eq;have mem:∀k,k<l.length→gx l k∈ps:=λk hk=>hp.mem_iff.1 (fV hk);have nd:l.Nodup:=hp.nodup_iff.2 hT.nd;have inj:∀k k',k<l.length→k'<l.length→gx l k=gx l k'→k=k':=λk k' h h' e=>by
  rw[xZ h,xZ h']at e;exact(List.getElem_inj nd).1 e
 have la:=(hT.sz _ (mem i hi)).len;unfold LN at la;intro kk
 induction kk with
 |zero=>intro k h;omega
 |succ kk ih=>
  intro k hk Fu hkj;rw[LB];by_cases hd:k<j
  ·have yr:k<l.length:=by omega
   have lk:=(hT.sz _ (mem k yr)).len;have h1:=hs i k Fu yr;have h2:=hs k j hd hj;rw[CG hT (mem k yr) (mem i hi)]at h1;rw[CG hT (mem j hj) (mem k yr),hjo]at h2;have h2':lx (sg ps ((gx l i).take n) (n-0) 0) (sg ps (gx l k) ((gx l k).length-0) 0)=false:=by
    rw[Xp,List.length_take,Nat.min_eq_left (by omega)]at h2;exact h2
   obtain⟨b1,b2⟩:=btw hT (mem i hi) (mem k yr) hn Ay n 0 (by omega) rfl (iW _) h1 h2';have hQ:(gx l k).length≠n:=λe=>by
    rw[List.take_of_length_le (by omega),←hjo]at b1;exact absurd (inj k j yr hj b1) (by omega)
   dsimp only;rw[show decide ((k:Int)<(j:Int))=true from ew (by omega),bo,gV yr,kB,kB,show decide (ln (gx l k)<ln (gx l i))=false from dt (by unfold ln;omega),lt_eq,bS rfl,show J (ln (gx l i)-1)=(n:Int)from by unfold ln;rw[lX (by omega) (by omega)];omega,bS (by unfold ln;omega),Ib,Ib,lt_eq,lt_eq,a3u m (by simp;unfold LN;omega) (by simp;unfold LN;omega) hm,aW,ew b1,px,be,be,cq (by omega)];exact ih (k+1) (by omega) (by omega) (by omega)
  ·rw[show decide ((k:Int)<(j:Int))=false from dt (by omega),be]
include LR
theorem agH:∀(kk i:Nat),l.length-i<kk→i≤l.length→Cz m (l,0) kk (i:Int)=some (.inr ()):=by
 have hlen:=hp.length_eq;have mem:∀k,k<l.length→gx l k∈ps:=λk hk=>hp.mem_iff.1 (fV hk);have nd:l.Nodup:=hp.nodup_iff.2 hT.nd;have szl:∀x∈l,x.length<LN:=λx hx=>(hT.sz x (hp.mem_iff.1 hx)).len;have Qq:l.length<SZ:=by unfold SZ;omega
 intro kk
 induction kk with
 |zero=>intro i h;omega
 |succ kk ih=>
  intro i hk hi;rw[Cz];dsimp only;by_cases hd:i<l.length
  ·have mi:=mem i hd;have la:=(hT.sz _ mi).len;have hQ:(gx l i).length≠0:=λe=>hT.ne _ mi (List.length_eq_zero_iff.1 e);have Ax:l.idxOf (gx l i)=i:=by rw[xZ hd];exact List.Nodup.idxOf_getElem nd i hd
   rw[jP hd,bo,gV hd,kB,show(ln (gx l i)==0)=false from rW.2 (by unfold ln;omega),be,a3v m la szl Qq (by omega) hm (fV hd),aW,Ax,lt_eq,be,bne_self_eq_false,be];by_cases h1:(gx l i).length=1
   ·rw[show(ln (gx l i)==1)=true from by unfold ln;rw[h1];rfl,bo,aW];show Cz m (l,0) kk (J ((i:Int)+1))=_;rw[cq (by unfold SZ at Qq;omega)];exact ih (i+1) (by omega) (by omega)
   ·obtain⟨n,hn⟩:∃n,n+1=(gx l i).length:=⟨(gx l i).length-1,by omega⟩;have mo:=hT.pre _ mi n (by omega) (by omega);have mo':(gx l i).take n∈l:=hp.mem_iff.2 mo;have hj:=List.idxOf_lt_length_of_mem mo';have Qr:gx l (l.idxOf ((gx l i).take n))=(gx l i).take n:=by rw[xZ hj];exact List.getElem_idxOf hj
    unfold LN at la;have dL:i<l.idxOf ((gx l i).take n):=by
     rcases Nat.lt_or_ge i (l.idxOf ((gx l i).take n))with h|h
     ·exact h
     ·exfalso;rcases Nat.lt_or_ge (l.idxOf ((gx l i).take n)) i with h'|h'
      ·have:=hs _ i h' hd;rw[Qr,agF ps (gx l i) n (by omega)]at this;cases this
      ·have e:l.idxOf ((gx l i).take n)=i:=by omega
       rw[e]at Qr;have:=congrArg List.length Qr;rw[List.length_take]at this;omega
    rw[show(ln (gx l i)==1)=false from rW.2 (by unfold ln;omega),be,show J (ln (gx l i)-1)=(n:Int)from by unfold ln;rw[lX (by omega) (by omega)];omega,bS (by unfold ln;omega),Ib,lt_eq,a3v m (by simp;unfold LN;omega) szl Qq (by omega) hm mo',aW,show decide (((l.idxOf ((gx l i).take n):Nat):Int)≤(i:Int))=false from dt (by omega),be,cq (by unfold SZ at Qq;omega),agG m hT hm Ai hp hs hd hj hn (by omega) Qr m (i+1) (by omega) (by omega) (by omega),aW];show Cz m (l,0) kk _=_;exact ih (i+1) (by omega) (by omega)
  ·rw[iQ (by omega),be]
end
theorem Xq(x:bB):zR x=mA x.dC+rJ x.cO+zC x.aT+jL x.bH+dT x.bE+6:=by obtain⟨a,b,c,d,e,f⟩:=x;simp only[zR,bB.dC,bB.cO,bB.aT,bB.bH,bB.bE];omega
theorem agI{l:List bB}{i:Nat}(h:i<l.length):dT (l.drop i)=zR l[i]+dT (l.drop (i+1)):=by rw[rX h,dT]
theorem agJ{l:List (List a6)}{i:Nat}(h:i<l.length):jL (l.drop i)=sS l[i]+jL (l.drop (i+1)):=by rw[rX h,jL]
theorem Xr:∀l:List (List a6),l.length≤jL l
 |[]=>iW _
 |v::r=>by have:=Xr r;rw[jL,fD];unfold sS;omega
theorem Xs:∀l:List bB,l.length≤dT l
 |[]=>iW _
 |v::r=>by have:=Xs r;have:=Xq v;rw[dT,fD];omega
theorem a3w(p:List a6):p.length+1≤sS p:=by
 unfold sS
 induction p with
 |nil=>simp
 |cons s p ih=>rw[List.map_cons,List.sum_cons,fD];omega
theorem a3x(p:List a6):kY p≤31*sS p:=by
 unfold sS
 induction p with
 |nil=>simp[kY]
 |cons s p ih=>rw[F4,List.map_cons,List.sum_cons];omega
theorem Xt(a b:List a6):kY (a++b)=kY a+kY b:=by simp[kY]
abbrev Pf(pf:List a6)(ps:LP):Prop:=∀k,0<k→k≤pf.length→pf.take k∈ps
theorem Pf.app{pf:List a6}{ps:LP}(h:Pf pf ps)(t:LP):Pf pf (ps++t):=λk h1 h2=>List.mem_append.2 (.inl (h k h1 h2))
/-- How a part of the walk turns the state: within 'n'. -/
structure o6(n:Nat)(ps:LP)(st:List bN)(b:Nat)(o7:LP)(oX:List bN)(gr:Mi)(b':Nat):Prop where
 p:∃t,o7=ps++t∧t.length≤n
 s:∃u,oX=st++u∧u.length≤n
 b1:b≤b'
 b2:b'≤b+n
 tv:Tv gr o7
theorem o6.tr{n n':Nat}{ps qA ya:LP}{st Aj yb:List bN}{sV vr:Mi}{b b1 b2:Nat}(h:o6 n ps st b qA Aj sV b1)(h':o6 n' qA Aj b1 ya yb vr b2):o6 (n+n') ps st b ya yb vr b2:=by
 obtain⟨t,e1,l1⟩:=h.p;obtain⟨u,e2,l2⟩:=h.s;obtain⟨t',e3,l3⟩:=h'.p;obtain⟨u',e4,l4⟩:=h'.s;refine⟨⟨t++t',by rw[e3,e1,yA],by rw[fR];omega⟩,⟨u++u',by rw[e4,e2,yA],by rw[fR];omega⟩,?_,?_,h'.tv⟩
 ·have:=h.b1;have:=h'.b1;omega
 ·have:=h.b2;have:=h'.b2;omega
theorem o6.up{n n':Nat}{ps qA:LP}{st Aj:List bN}{sV:Mi}{b b1:Nat}(h:o6 n ps st b qA Aj sV b1)(hn:n≤n'):o6 n' ps st b qA Aj sV b1:=by
 obtain⟨t,e1,l1⟩:=h.p;obtain⟨u,e2,l2⟩:=h.s;exact⟨⟨t,e1,by omega⟩,⟨u,e2,by omega⟩,h.b1,by have:=h.b2;omega,h.tv⟩
theorem o6.id{ps:LP}{st:List bN}{sn:Mi}{b:Nat}(h:Tv sn ps)(n:Nat):o6 n ps st b ps st sn b:=⟨⟨[],by rw[List.append_nil],by simp⟩,⟨[],by rw[List.append_nil],by simp⟩,dc _,by omega,h⟩
theorem agK(m:Nat)(hm:LN<m)(rules:List bB)(pf:List a6)(i:Nat)(st:List bN)(uc:pf.length+jL (gi rules (i:Int)).bH<LN)(LX:kY pf+31*jL (gi rules (i:Int)).bH<SZ):∀(kk j:Nat)(sn:Mi)(ps:LP),(gi rules (i:Int)).bH.length-j<kk→j≤(gi rules (i:Int)).bH.length→Tv sn ps→Pf pf ps→ps.length+jL ((gi rules (i:Int)).bH.drop j)<16777216→
   ∃t gr,Ew m rules pf (i:Int) st kk (j:Int) ps sn=some (gr,ps++t)∧Tv gr (ps++t)∧t.length≤jL ((gi rules (i:Int)).bH.drop j):=by
 generalize hN:(gi rules (i:Int)).bH=N at uc LX⊢;have hlen:=Xr N;intro kk
 induction kk with
 |zero=>intro j sn ps h;omega
 |succ kk ih=>
  intro j sn ps hk hj hT hP hs;rw[Ew,hN,lt_eq];by_cases h:j<N.length
  ·have hz:sS N[j]≤jL N:=by
    have:∀l:List (List a6),∀x∈l,sS x≤jL l:=by
     intro l
     induction l with
     |nil=>intro x hx;cases hx
     |cons y l ih=>
      intro x hx;rw[jL];rcases List.mem_cons.1 hx with rfl|hx
      ·omega
      ·have:=ih x hx;omega
    exact this N _ (List.getElem_mem h)
   have hl:=a3w N[j];have Ai:=a3x N[j];have hd:=agJ h;have ok:Ok (pf++N[j]):=⟨by rw[Xt];omega,by rw[fR];omega⟩;unfold LN at uc hm;rw[jP h,bo,gV h,l9 N j h,a3o m pf N[j] (by unfold SZ;omega) (by omega),aW];obtain⟨t,gr,e,h1,h2,h3⟩:=a3n m ok (by unfold LN;omega) st hT (by rw[fR];unfold SZ;omega);have ht:=h2 pf.length (λk g1 g2=>by rw[List.take_append_of_le_length g2];exact hP k g1 g2);rw[fR]at ht;rw[e,aW,cq (by omega)];dsimp only;obtain⟨t',vr,e2,h4,h5⟩:=ih (j+1) gr (ps++t) (by omega) (by omega) h1 (hP.app t) (by rw[fR];omega);exact⟨t++t',vr,by rw[e2,yA],by rw[←yA];exact h4,by rw[fR];omega⟩
  ·rw[iQ (by omega),be];exact⟨[],sn,by rw[List.append_nil],by rw[List.append_nil];exact hT,by simp⟩
theorem agL(n:Nat)(h:n<1000000000):∃y:a6,AG (n:Int)=some y∧y.length≤21:=by
 refine⟨me 20 n,?_,a3f 20 n⟩;unfold AG;rw[bS (by omega),IR,show decide ((n:Int)<0)=false from dt (by omega),be];rfl
section
variable (m:Nat) (hm:LN<m) (wd:Int) (hh:∀r:bB,zR r≤1048576→∃b,BR m r (kM.mk wd)=some b)
include hm hh
theorem agM(rules:List bB)(src:Int)(pf:List a6)(rec:List bB→Int→List a6→Int→Mi→LP→List bN→Int→Option (LP×List bN×Mi×Int))(hz:dT rules≤1048576)(uc:pf.length+dT rules<LN)(LX:kY pf+31*dT rules<SZ)
   (Qj:∀(r:bB),r∈rules→∀(sW:List a6)(sn:Mi)(ps:LP)(st:List bN)(b:Nat),Tv sn ps→Pf sW ps→sW.length+dT r.bE<LN→kY sW+31*dT r.bE<SZ→ps.length+dT r.bE<16777216→st.length+dT r.bE<16777216→b+dT r.bE<16777216→
     ∃o7 oX gr b',rec r.bE src sW wd sn ps st (b:Int)=some (o7,oX,gr,((b':Nat):Int))∧o6 (dT r.bE) ps st b o7 oX gr b'):
   ∀(kk i:Nat)(sn:Mi)(ps:LP)(st:List bN)(b:Nat),rules.length-i<kk→i≤rules.length→Tv sn ps→Pf pf ps→ps.length+dT (rules.drop i)<16777216→st.length+dT (rules.drop i)<16777216→b+dT (rules.drop i)<16777216→
     ∃o7 oX gr b',Hg m rules src pf wd rec kk (i:Int) ps st (b:Int) sn=some (o7,oX,gr,((b':Nat):Int))∧o6 (dT (rules.drop i)) ps st b o7 oX gr b':=by
 have hlen:=Xs rules;unfold LN at uc hm;unfold SZ at LX;intro kk
 induction kk with
 |zero=>intro i sn ps st b h;omega
 |succ kk ih=>
  intro i sn ps st b hk hi hT hP h1 h2 h3;rw[Hg];by_cases h:i<rules.length
  ·have hd:=agI h;have hr:gi rules (i:Int)=rules[i]:=l9 rules i h;have qJ:rules[i]∈rules:=List.getElem_mem h;have wW:zR rules[i]≤dT rules:=by
    have:∀l:List bB,∀x∈l,zR x≤dT l:=by
     intro l
     induction l with
     |nil=>intro x hx;cases hx
     |cons y l ih=>
      intro x hx;rw[dT];rcases List.mem_cons.1 hx with rfl|hx
      ·omega
      ·have:=ih x hx;omega
    exact this rules _ qJ
   have hza:=Xq rules[i];obtain⟨hJ,hy⟩:=hh rules[i] (by omega);rw[jP h,bo,gV h,hr,hy,aW]
   -- one rule: the new state
   suffices S:∃o7 oX gr b' x y,(cond (!hJ) (some (st,ps,(b:Int),st,sn,ps)) (Option.bind (
      cond (rules[i].an==1) (
      aH (ln st+ln ([bN.mk src pf rules[i]]:List bN)≤137438953472)<|
      lt (st++([bN.mk src pf rules[i]]:List bN)) λBX=>
      Option.bind (some (BX,ps,(b:Int),BX,sn,ps)) λOT=>some (.inl OT)) (
      cond (rules[i].an==5) (
      Option.bind (Ew m rules pf (i:Int) st m 0 ps sn) λ(wR:Mi×LP)=>
      Option.bind (some (st,wR.2,(b:Int),st,wR.1,wR.2)) λOU=>some (.inl OU)) (
      cond (rules[i].an==4) (
      Option.bind (AG (b:Int)) λzI=>
      aH (ln [0]+ln zI≤9223372036854775807)<|
      Option.bind (
      cond (decide (0<ln rules[i].bH)) (
      aH (0≤(0:Int)∧(0:Int)<ln rules[i].bH)<|
      some (gi rules[i].bH (0:Int),(b:Int))) (
      some (([[0]++zI]:List a6),J ((b:Int)+1)))) λ(kA:(List a6)×Int)=>
      Option.bind (Ev m ([pf,kA.1]:List (List a6))) λBZ=>
      Option.bind (Hc m BZ sn ps st) λHh=>
      some (.inr (BZ,Hh.1,kA.2,Hh.2))) (
      some (.inr (pf,ps,(b:Int),sn)))))) λ(z26:Sum ((List bN)×LP×Int×(List bN)×Mi×LP) ((List a6)×LP×Int×Mi))=>di z26 λlW=>
      Option.bind (rec rules[i].bE src lW.1 wd lW.2.2.2 lW.2.1 st lW.2.2.1) λrG=>
      some (rG.2.1,rG.1,rG.2.2.2,st,rG.2.2.1,ps)))=some (oX,o7,((b':Nat):Int),x,gr,y)∧o6 (zR rules[i]) ps st b o7 oX gr b' by
    obtain⟨qA,Aj,sV,b1,x,y,e,g⟩:=S;obtain⟨t,et,Ic⟩:=g.p;obtain⟨u,eu,lu⟩:=g.s;have Mf:=g.b2;obtain⟨ya,yb,vr,b2,e2,g2⟩:=ih (i+1) sV qA Aj b1 (by omega) (by omega) g.tv (by rw[et];exact hP.app t) (by rw[et,fR];omega) (by rw[eu,fR];omega) (by omega);refine⟨ya,yb,vr,b2,?_,by rw[hd];exact g.tr g2⟩;have e':=e;rw[e',aW,cq (by omega)];exact e2
   cases hJ with
   |false=>exact⟨ps,st,sn,b,st,ps,rfl,o6.id hT _⟩
   |true=>
    rw[px,be];cases k1:rules[i].an==1 with
    |true=>
     rw[bo,bS (by simp only[ln,fD,il];omega),lt_eq,aW,aW];exact⟨ps,st++[bN.mk src pf rules[i]],sn,b,_,_,rfl,⟨⟨[],by rw[List.append_nil],by simp⟩,⟨_,rfl,by simp;omega⟩,dc _,by omega,hT⟩⟩
    |false=>
     rw[be];cases k5:rules[i].an==5 with
     |true=>
      obtain⟨t,gr,e,g1,g2⟩:=agK m (by unfold LN;omega) rules pf i st (by rw[hr];unfold LN;omega) (by rw[hr];unfold SZ;omega) m 0 sn ps (by rw[hr];have:=Xr rules[i].bH;omega) (iW _) hT hP (by rw[hr,pw];omega);rw[hr,pw]at g2;have e':Ew m rules pf (i:Int) st m 0 ps sn=some (gr,ps++t):=e;rw[bo,e',aW,aW,aW];exact⟨ps++t,st,gr,b,_,_,rfl,⟨⟨t,rfl,by omega⟩,⟨[],by rw[List.append_nil],by simp⟩,dc _,by omega,g1⟩⟩
     |false=>
      rw[be]
      -- what lies in it
      have inner:∀(sW:List a6)(sV:Mi)(qA:LP)(b1:Nat)(n:Nat),n+dT rules[i].bE≤zR rules[i]→o6 n ps st b qA st sV b1→Pf sW qA→sW.length≤pf.length+n→kY sW≤kY pf+31*n→
        ∃o7 oX gr b' x y,(Option.bind (some (.inr (sW,qA,(b1:Int),sV)):Option (Sum ((List bN)×LP×Int×(List bN)×Mi×LP) ((List a6)×LP×Int×Mi))) λz26=>di z26 λlW=>
         Option.bind (rec rules[i].bE src lW.1 wd lW.2.2.2 lW.2.1 st lW.2.2.1) λrG=>
         some (rG.2.1,rG.1,rG.2.2.2,st,rG.2.2.1,ps))=some (oX,o7,((b':Nat):Int),x,gr,y)∧o6 (zR rules[i]) ps st b o7 oX gr b':=by
       intro sW sV qA b1 n hn g hP1 Qh rR;obtain⟨t,et,Ic⟩:=g.p;have Mf:=g.b2;obtain⟨ya,yb,vr,b2,e2,g2⟩:=Qj rules[i] qJ sW sV qA st b1 g.tv hP1 (by unfold LN;omega) (by unfold SZ;omega) (by rw[et,fR];omega) (by omega) (by omega);refine⟨ya,yb,vr,b2,st,ps,?_,(g.tr g2).up hn⟩;rw[aW];show Option.bind (rec rules[i].bE src sW wd sV qA st (b1:Int)) _=_;rw[e2,aW]
      cases k4:rules[i].an==4 with
      |false=>
       rw[be];exact inner pf sn ps b 0 (by omega) (o6.id hT 0) hP (by omega) (by omega)
      |true=>
       obtain⟨y,ey,ly⟩:=agL b (by omega);rw[bo,ey,aW,bS (by simp only[ln,fD,il];omega)];have nm:∃(nm:List a6)(b1:Nat),cond (decide (0<ln rules[i].bH)) (aH (0≤(0:Int)∧(0:Int)<ln rules[i].bH)<|some (gi rules[i].bH (0:Int),(b:Int))) (some (([[0]++y]:List a6),J ((b:Int)+1)))=some (nm,(b1:Int))∧b≤b1∧b1≤b+1∧nm.length≤jL rules[i].bH+1∧kY nm≤31*(jL rules[i].bH+2):=by
        cases hN:rules[i].bH with
        |nil=>
         refine⟨[[0]++y],b+1,?_,by omega,by omega,by simp,?_⟩
         ·rw[show decide ((0:Int)<ln ([]:List (List a6)))=false from rfl,be,cq (by omega)]
         ·rw[F4];simp[kY];omega
        |cons x xs=>
         refine⟨x,b,?_,dc _,by omega,?_,?_⟩
         ·rw[show decide ((0:Int)<ln (x::xs))=true from ew (by simp only[ln,fD];omega),bo,bS (by simp only[ln,fD];omega)];rfl
         ·have:=a3w x;rw[jL];omega
         ·have:=a3x x;rw[jL];omega
       obtain⟨nm,b1,en,w1,w2,w3,w4⟩:=nm;have ok:Ok (pf++nm):=⟨by rw[Xt];unfold SZ;omega,by rw[fR];unfold LN;omega⟩;rw[en,aW];dsimp only;rw[a3o m pf nm (by unfold SZ;omega) (by omega),aW];obtain⟨t,gr,e,q1,q2,q3⟩:=a3n m ok (by unfold LN;omega) st hT (by rw[fR];unfold SZ;omega);have ht:=q2 pf.length (λk g1 g2=>by rw[List.take_append_of_le_length g2];exact hP k g1 g2);rw[fR]at ht;rw[e,aW];exact inner (pf++nm) gr (ps++t) b1 (jL rules[i].bH+2) (by omega) ⟨⟨t,rfl,by omega⟩,⟨[],by rw[List.append_nil],by simp⟩,w1,by omega,q1⟩ q3 (by rw[fR];omega) (by rw[Xt];omega)
  ·rw[iQ (by omega),be];exact⟨ps,st,sn,b,rfl,o6.id hT _⟩
theorem agN:∀(k:Nat)(rules:List bB)(src:Int)(pf:List a6)(sn:Mi)(ps:LP)(st:List bN)(b:Nat),dT rules<k→dT rules≤1048576→Tv sn ps→Pf pf ps→pf.length+dT rules<LN→kY pf+31*dT rules<SZ→ps.length+dT rules<16777216→st.length+dT rules<16777216→b+dT rules<16777216→
   ∃o7 oX gr b',Ex m k rules src pf wd sn ps st (b:Int)=some (o7,oX,gr,((b':Nat):Int))∧o6 (dT rules) ps st b o7 oX gr b':=by
 intro k
 induction k with
 |zero=>intro rules src pf sn ps st b h;omega
 |succ k ih=>
  intro rules src pf sn ps st b hk hz hT hP uc LX h1 h2 h3;have hlen:=Xs rules;have:=agM m hm wd hh rules src pf (Ex m k) hz uc LX (λr hr sW sn ps st b g1 g2 g3 g4 g5 g6 g7=>by
    have wW:zR r≤dT rules:=by
     have:∀l:List bB,∀x∈l,zR x≤dT l:=by
      intro l
      induction l with
      |nil=>intro x hx;cases hx
      |cons y l ih=>
       intro x hx;rw[dT];rcases List.mem_cons.1 hx with rfl|hx
       ·omega
       ·have:=ih x hx;omega
     exact this rules _ hr
    have hza:=Xq r;exact ih r.bE src sW sn ps st b (by omega) (by omega) g1 g2 g3 g4 g5 g6 g7) m 0 sn ps st b (by unfold LN at hm uc;omega) (iW _) hT hP (by rw[pw];exact h1) (by rw[pw];exact h2) (by rw[pw];exact h3)
  rw[pw]at this;exact this
end
theorem agO{l:List gg}{i:Nat}(h:i<l.length):jT (l.drop i)=zO l[i]+jT (l.drop (i+1)):=by rw[rX h,jT]
theorem Xu:∀l:List gg,l.length≤jT l
 |[]=>iW _
 |v::r=>by have:=Xu r;rw[jT,fD];unfold zO;omega
section
variable (m:Nat) (hm:LN<m) (e:kM) (hh:∀r:bB,zR r≤1048576→∃b,BR m r (kM.mk e.dd)=some b)
include hm hh
theorem agP(l:List gg)(og:Int)(hz:jT l≤1048576):∀(kk i:Nat)(sn:Mi)(ps:LP)(st:List bN)(b:Nat),l.length-i<kk→i≤l.length→Tv sn ps→ps.length+jT (l.drop i)<16777216→st.length+jT (l.drop i)<16777216→b+jT (l.drop i)<16777216→
   ∃o7 oX gr b',Ez m l e og kk (i:Int) (b:Int) ps st sn=some (((b':Nat):Int),o7,oX,gr)∧o6 (jT (l.drop i)) ps st b o7 oX gr b':=by
 have hlen:=Xu l;intro kk
 induction kk with
 |zero=>intro i sn ps st b h;omega
 |succ kk ih=>
  intro i sn ps st b hk hi hT h1 h2 h3;rw[Ez];by_cases h:i<l.length
  ·have hd:=agO h;have u6:zO l[i]+jT (l.drop (i+1))≤1048576:=by
    have:∀(l:List gg)(i:Nat),jT (l.drop i)≤jT l:=by
     intro l
     induction l with
     |nil=>intro i;simp
     |cons x l ih=>intro i;cases i with
       |zero=>exact dc _
       |succ i=>rw[List.drop_succ_cons,jT];have:=ih i;omega
    have:=this l i;omega
   have hO:dT l[i].iF.bE+4=zO l[i]:=by unfold zO;omega
   rw[jP h,bo,gV h,l9 l i h];cases l[i].pB==og with
   |true=>
    obtain⟨qA,Aj,sV,b1,e1,g⟩:=agN m hm e.dd hh m l[i].iF.bE (i:Int) [] sn ps st b (by unfold LN at hm;omega) (by omega) hT (λk g1 g2=>by simp at g2;omega) (by unfold LN;simp;omega) (by unfold SZ;simp[kY];omega) (by omega) (by omega) (by omega);obtain⟨t,et,Ic⟩:=g.p;obtain⟨u,eu,lu⟩:=g.s;have Mf:=g.b2;rw[bo,VC,e1,aW,aW,cq (by omega)];obtain⟨ya,yb,vr,b2,e2,g2⟩:=ih (i+1) sV qA Aj b1 (by omega) (by omega) g.tv (by rw[et,fR];omega) (by rw[eu,fR];omega) (by omega);exact⟨ya,yb,vr,b2,e2,by rw[hd];exact(g.tr g2).up (by omega)⟩
   |false=>
    rw[be,aW,cq (by omega)];obtain⟨ya,yb,vr,b2,e2,g2⟩:=ih (i+1) sn ps st b (by omega) (by omega) hT (by omega) (by omega) (by omega);exact⟨ya,yb,vr,b2,e2,by rw[hd];exact g2.up (by omega)⟩
  ·rw[iQ (by omega),be];exact⟨ps,st,sn,b,rfl,o6.id hT _⟩
theorem agQ(l:List gg)(og:Int)(hz:jT l≤1048576):∃ps st sn,C1 m l e og=some (sn,ps,st)∧Tv sn ps∧ps.length≤1048576∧st.length≤1048576:=by
 have hlen:=Xu l;obtain⟨ps,st,sn,b,e1,g⟩:=agP m hm e hh l og hz m 0 [] [] [] 0 (by unfold LN at hm;omega) (iW _) Tv.nil (by simp;omega) (by simp;omega) (by simp;omega);obtain⟨t,et,Ic⟩:=g.p;obtain⟨u,eu,lu⟩:=g.s;have u7:Ez m l e og m 0 0 ([]:LP) ([]:List bN) ([]:Mi)=some (((b:Nat):Int),ps,st,sn):=e1;rw[pw]at Ic lu;refine⟨ps,st,sn,by rw[C1,u7,aW],g.tv,?_,?_⟩
 ·rw[et,List.nil_append];omega
 ·rw[eu,List.nil_append];omega
end
section
variable (m:Nat) (hm:LN<m) (e:kM) (hh:xJ e=true→∀r:bB,zR r≤1048576→∃b,BR m r (kM.mk e.dd)=some b)
include hm hh
/-- What Order comes to. -/
theorem agR(l:List gg)(og:Int)(hz:jT l≤1048576)(Mq:1048582<m){c:Int}(hc:Br m l=some c):
   (∃x,x≠0∧EN m l e og=some ([],x))∨(∃sn ps st o,C1 m l e og=some (sn,ps,st)∧Tv sn ps∧ps.length≤1048576∧EN m l e og=some (o,0)∧o.Perm ps∧∀i j,i<j→j<o.length→Lt (CF ps) (gx o j) (gx o i)=false):=by
 rw[EN,hc,aW];by_cases h0:c=0
 ·rw[h0,show((0:Int) !=0)=false from rfl,be,lt_eq];cases hE:cond (cond (!(xJ e)) true (decide (og<1))) true (decide (3<og))with
  |true=>exact .inl ⟨2,by decide,rfl⟩
  |false=>
   have hI:xJ e=true:=by
    cases hi:xJ e
    ·rw[hi]at hE;cases hE
    ·rfl
   obtain⟨ps,st,sn,e1,hT,h1,h2⟩:=agQ m hm e (hh hI) l og hz;obtain⟨o,e2,h3,h4⟩:=agB m hT hm (by omega) (by omega) st;refine .inr ⟨sn,ps,st,o,e1,hT,h1,?_,h3,h4⟩;rw[be,e1,aW,e2,aW]
 ·rw[show(c !=0)=true from bne_iff_ne.2 h0,bo];exact .inl ⟨c,h0,rfl⟩
theorem agS(l:List gg)(og:Int)(hz:jT l≤1048576)(Mq:1048582<m)(ha:HU m=some true){g:Bool}(hg:HZ m l=some g){c:Int}(hc:Br m l=some c):
   ER m l e og=some true:=by
 rw[ER,ha,aW,hg,aW];cases g with
 |true=>rfl
 |false=>
  rw[show cond false true (!true)=false from rfl,be];rcases agR m hm e hh l og hz Mq hc with⟨x,hx,e1⟩|⟨sn,ps,st,o,e0,hT,hl,e1,hp,hs⟩
  ·rw[e1,aW];show cond (x !=0) _ _=_;rw[show(x !=0)=true from bne_iff_ne.2 hx,bo];rfl
  ·rw[e1,aW];show cond ((0:Int) !=0) _ _=_;have:=agH m hT hm (by omega) (by omega) hp hs m 0 (by have:=hp.length_eq;omega) (iW _);have e2:Cz m (o,0) m 0=some (.inr ()):=this;rw[show((0:Int) !=0)=false from rfl,be,e2];rfl
end
def Tt{α:Type}(x:Option α):Prop:=∃r,x=some r
theorem bg{α:Type}(a:α):Tt (some a):=⟨a,rfl⟩
theorem cj{α:Type}{b:Bool}{x y:Option α}(h1:b=true→Tt x)(h2:b=false→Tt y):Tt (cond b x y):=by
 cases b
 ·exact h2 rfl
 ·exact h1 rfl
theorem br{α β:Type}{x:Option α}{f:α→Option β}(h1:Tt x)(h2:∀a,x=some a→Tt (f a)):Tt (Option.bind x f):=by
 obtain⟨a,e⟩:=h1;rw[e];exact h2 a e
theorem lI{α:Type}{p:Prop}[Decidable p]{x:Option α}(h1:p)(h2:Tt x):Tt (aH p x):=by rw[bS h1];exact h2
theorem cm{α β:Type}{e:α}{f:α→Option β}(h:Tt (f e)):Tt (lt e f):=h
theorem jl{α β:Type}{z:Sum α β}{f:β→Option α}(h:∀s,z=.inr s→Tt (f s)):Tt (di z f):=by
 cases z with
 |inl a=>exact⟨a,rfl⟩
 |inr s=>exact h s rfl
/-- A loop over a list, with a state that stays where 'I' holds. -/
theorem nc{α σ ρ:Type}[Inhabited α](F:Nat→σ→Int→Option ρ)(l:List α)(I:Nat→σ→Prop)
  (hF:∀(kk i:Nat)(a:σ),i<l.length→gi l (i:Int)∈l→I i a→(∀b,I (i+1) b→Tt (F kk b ((i+1:Nat):Int)))→Tt (F (kk+1) a (i:Int)))(hE:∀kk (i:Nat)(a:σ),l.length≤i→Tt (F (kk+1) a (i:Int))):
  ∀(kk i:Nat)(a:σ),l.length-i<kk→I i a→Tt (F kk a (i:Int)):=by
 intro kk
 induction kk with
 |zero=>intro i a h;omega
 |succ kk ih=>
  intro i a h hI;by_cases h1:i<l.length
  ·exact hF kk i a h1 (qz h1) hI (λb hb=>ih (i+1) b (by omega) hb)
  ·exact hE kk i a (by omega)
theorem t0{α ρ:Type}[Inhabited α](F:Nat→Int→Option ρ)(l:List α)
  (hF:∀(kk i:Nat),i<l.length→gi l (i:Int)∈l→Tt (F kk ((i+1:Nat):Int))→Tt (F (kk+1) (i:Int)))(hE:∀kk (i:Nat),l.length≤i→Tt (F (kk+1) (i:Int))){m:Nat}(hm:l.length<m):Tt (F m 0):=
 nc (λkk (_:Unit) i=>F kk i) l (λ_ _=>True) (λkk i a h1 h2 _ h3=>hF kk i h1 h2 (h3 () trivial)) (λkk i a h=>hE kk i h) m 0 () (by omega) trivial
theorem j8{α β:Type}{l:List α}{i:Nat}{x y:Option β}(h:i<l.length)(hx:Tt x):Tt (cond (decide ((i:Int)<ln l)) x y):=by rw[jP h];exact hx
theorem j9{α β:Type}{l:List α}{i:Nat}{x:Option β}{y:β}(h:l.length≤i):Tt (cond (decide ((i:Int)<ln l)) x (some y)):=by rw[iQ h];exact⟨_,rfl⟩
theorem gQ{α β:Type}{l:List α}{i:Nat}{x:Option β}(h:i<l.length)(hx:Tt x):Tt (aH (0≤(i:Int)∧(i:Int)<ln l) x):=by rw[gV h];exact hx
def clt(k:Int):ct:=ct.mk k [] 0 [] false
mutual
def LY:ax→List ct
 | .mk t l=>cond (mB t.an==0) [t] (t::(ng l++[clt (mB t.an)]))
def ng:List ax→List ct
 |[]=>[]
 |x::r=>LY x++ng r
end
theorem Xv(x:ax):LY x=cond (mB x.aX.an==0) [x.aX] (x.aX::(ng x.ae++[clt (mB x.aX.an)])):=by obtain⟨t,l⟩:=x;rw[LY];rfl
theorem Xw(n:Nat):∀v:List ax,cD v≤n→(ng v).length=jw v:=by
 induction n using Nat.strongRecOn with
 |_ n ih=>
  intro v
  induction v with
  |nil=>intro _;rw[ng,jw];rfl
  |cons x r ET=>
   intro h;rw[cD]at h;have hk:=qx x;rw[ng,jw,fR,ET (by omega),Xv,LJ];have:=ih (cD x.ae) (by omega) x.ae (dc _);cases(mB x.aX.an==0)
   ·simp only[be,fD,fR,il,this];omega
   ·rfl
theorem agT{l:List ax}{i:Nat}(h:i<l.length):ng (l.drop i)=LY (gi l (i:Int))++ng (l.drop (i+1)):=by
 rw[rX h,ng,←l9 l i h]
theorem agU(x:ax):(LY x).length=LI x:=by
 have:=Xw (cD [x]) [x] (dc _);rw[ng,jw,ng,jw]at this;simpa using this
theorem agV(v:List ax)(rec:List ct→List ax→Option (List ct))(hl:v.length≤1048576)(hr:∀x∈v,∀l:List ct,l.length+jw x.ae≤2500000→rec l x.ae=some (l++ng x.ae)):
  ∀(kk i:Nat)(a:List ct),v.length-i<kk→i≤v.length→a.length+jw (v.drop i)≤2500000→G3 FU v rec kk a (i:Int)=some (a++ng (v.drop i)):=by
 intro kk
 induction kk with
 |zero=>intro i a h;omega
 |succ kk ih=>
  intro i a h hi ha;rw[G3];by_cases h1:i<v.length
  ·have hm:=qz h1;have wU:=WX h1;have hlen:=agU (gi v (i:Int));rw[LJ]at wU hlen;have hq:(a++[(gi v (i:Int)).aX]).length=a.length+1:=by simp
   rw[jP h1,bo,gV h1,bS (by unfold ln;simp only[fD,il];omega),lt_eq,lt_eq,a2S];rw[agT h1,Xv]at*;cases hc:(mB (gi v (i:Int)).aX.an==0)
   ·have hz:(mB (gi v (i:Int)).aX.an !=0)=true:=by rw[bne,hc];rfl
    rw[hc,be]at wU hlen;have hlk:(ng (gi v (i:Int)).ae).length=jw (gi v (i:Int)).ae:=Xw _ _ (dc _);rw[hz,bo,hr _ hm _ (by omega),aW,bS (by unfold ln;simp only[fD,il,fR];omega),lt_eq,aW,cq (by omega),ih (i+1) _ (by omega) (by omega) (by simp only[fR,fD,il];omega),be];congr 1;simp only[yA,List.cons_append,List.nil_append];rfl
   ·have hz:(mB (gi v (i:Int)).aX.an !=0)=false:=by rw[bne,hc];rfl
    rw[hc,bo]at wU;rw[hz,be,aW,cq (by omega),ih (i+1) (a++[(gi v (i:Int)).aX]) (by omega) (by omega) (by rw[hq];omega),bo,yA]
  ·rw[iQ (by omega),be,IU (by omega),ng,List.append_nil]
theorem a3y(v:List ax):jw v≤cD v:=(WY (cD v) v (dc _)).1
theorem agW:∀(k:Nat)(v:List ax)(l:List ct),cD v<k→cD v≤1048576→l.length+jw v≤2500000→DR FU k l v=some (l++ng v):=by
 intro k
 induction k with
 |zero=>intro v l h;omega
 |succ k ih=>
  intro v l h hb hl;have hn:=qy v;rw[DR,show G3 FU v (DR FU k) FU l 0=some (l++ng (v.drop 0))from agV v _ (by omega) (λx hx l hl=>ih x.ae l (by have:=qx x;have:=rK hx;omega) (by have:=qx x;have:=rK hx;omega) hl) FU 0 l (by unfold FU;omega) (iW _) (by rw[pw];exact hl),pw];rfl
theorem agX(v:List ax)(hb:cD v≤1048576):NT FU [] v=some (ng v):=by
 have h:=a3y v;unfold NT;rw[agW FU v [] (by unfold FU;omega) hb (by simp only[il];omega)];rfl
def tz(t:ct):Nat:=t.cY.length+t.Unit.length
theorem agY(n:Nat):∀v:List ax,cD v≤n→∀t∈ng v,tz t≤cD v:=by
 induction n using Nat.strongRecOn with
 |_ n ih=>
  intro v
  induction v with
  |nil=>intro _ t ht;rw[ng]at ht;cases ht
  |cons x r ET=>
   intro h t ht;rw[cD]at h⊢;have hk:=qx x;have hx:=a30 x;rw[ng]at ht;rcases List.mem_append.1 ht with ht|ht
   ·rw[Xv]at ht;cases hc:(mB x.aX.an==0)
    ·rw[hc,be]at ht;rcases List.mem_cons.1 ht with rfl|ht
     ·unfold tz;omega
     ·rcases List.mem_append.1 ht with ht|ht
      ·have:=ih (cD x.ae) (by omega) x.ae (dc _) t ht;omega
      ·rw[List.mem_singleton.1 ht];exact iW _
    ·rw[hc,bo]at ht;rw[List.mem_singleton.1 ht];unfold tz;omega
   ·have:=ET (by omega) t ht;omega
theorem LZ(s:a6)(hs:s.length≤1048576):Tt (yW FU s):=by
 unfold yW;have hl:(bD s).length=s.length:=by simp[bD]
 refine br (nc (λkk a i=>Bb FU s kk i a) (bD s) (λ_ _=>True) (λkk i a h1 h2 _ h3=>?_) (λkk i a h=>?_) FU 0 (bD s) (by rw[hl];unfold FU;omega) trivial) (λa _=>bg _)
 ·show Tt (Bb FU s (kk+1) (i:Int) a);rw[Bb,cq (by omega)];refine j8 h1 (br (gQ h1 ?_) (λb _=>h3 b trivial))
  with_reducible repeat' first|exact bg _|apply cm|(apply cj<;>intro _)|(apply br<;>try intro _ _)|apply lI|(apply jl;intro _ _)
 ·show Tt (Bb FU s (kk+1) (i:Int) a);rw[Bb];exact j9 h
theorem agZ(a b:a6)(ha:a.length≤1048576)(hb:b.length≤1048576):Tt (K0 FU a b):=by
 unfold K0;exact br (LZ a ha) λ_ _=>br (LZ b hb) λ_ _=>bg _
theorem Xx(s p:a6):Tt (z1 s p):=by
 unfold z1 Bk
 with_reducible repeat' first|exact bg _|apply cm|(apply cj<;>intro _)|(apply br<;>try intro _ _)|apply lI|(apply jl;intro _ _)
 exact λh=>⟨by unfold ln;omega,yz h⟩
theorem ah0(s p:a6):Tt (JU s p):=by
 unfold JU NV;refine br (br ?_ λb hb=>cj (λe=>lI ?_ (bg _)) λ_=>bg _) λ_ _=>bg _
 ·unfold Bk
  with_reducible repeat' first|exact bg _|apply cm|(apply cj<;>intro _)|(apply br<;>try intro _ _)|apply lI|(apply jl;intro _ _)
  exact λh=>⟨by unfold ln;omega,yz h⟩
 ·unfold Bk at hb;rw[bS (λh=>⟨by unfold ln;omega,yz h⟩),lt_eq]at hb;have hb:=Option.some.inj hb;rw[e]at hb;refine⟨by unfold ln;omega,?_⟩;cases hd:decide (ln p≤ln s)
  ·rw[hd]at hb;cases hb
  ·exact yz hd
theorem ah1{s:a6}(h:(!(s==[]))=true):0≤(0:Int)∧(0:Int)<ln s:=by
 cases s with
 |nil=>cases h
 |cons a s=>unfold ln;simp only[fD];omega
theorem ah2(s:a6):Tt (JW s):=by
 unfold JW;exact br (ah0 s [45]) λ_ _=>lI (λh=>ah1 h) (cm (bg _))
theorem ah3(s p:a6)(h:p.length=1):Tt (strings_Contains s p):=by
 unfold strings_Contains strings_Index stringslite_Index;refine br (br (cm (cj (λ_=>bg _) λ_=>cj (λ_=>lI ?_ (bg _)) λe=>?_)) λ_ _=>bg _) λ_ _=>bg _
 ·unfold ln;omega
 ·rw[show(ln p==1)=true from by unfold ln;rw[h];rfl]at e;cases e
theorem ah4(t:ct)(h:t.cY.length+t.Unit.length≤1048576):Tt (JY t):=by
 unfold JY;refine lI (by unfold ln;omega) ?_
 with_reducible repeat' first|exact bg _|apply cm|(apply cj<;>intro _)|(apply br<;>try intro _ _)|apply lI|(apply jl;intro _ _)
 ·exact ah2 _
 ·exact Xx _ _
 ·intro h;cases hx:decide (strings_IndexByte (t.cY++t.Unit) 0<0)
  ·rw[hx]at h;cases h
  ·rw[hx,bo]at h;have:=eq_of_beq h;omega
 ·refine ah3 _ _ ?_;rename_i hx;by_cases e:t.cY=[45]
  ·rw[e];rfl
  ·rw[show(t.cY==[45])=false from rW.2 e]at hx;cases hd:decide (strings_IndexByte (t.cY++t.Unit) 0<0)
   ·rw[hd]at hx;cases hx
   ·rw[hd,bo]at hx;cases h1:(ln t.cY==1)
    ·rw[h1]at hx;cases hx
    ·have:=eq_of_beq h1;unfold ln at this;omega
theorem Qt(i k:Int)(u:List ct)(h:0≤i):Tt (DT i k u):=by
 unfold DT;exact lI (λe=>⟨h,yz e⟩) (cm (bg _))
theorem ah5(l:List ct)(h0:0<l.length)(ht:tz (gi l 0)≤1048576):Tt (K1 FU l):=by
 unfold K1;refine lI (by unfold ln;omega) ?_;have hT:(gi l 0).cY.length≤1048576:=by unfold tz at ht;omega
 with_reducible repeat' first|exact bg _|apply cm|(apply cj<;>intro _)|(apply br<;>try intro _ _)|apply lI|(apply jl;intro _ _)
 ·exact Qt _ _ _ (by omega)
 ·exact agZ _ _ hT (by decide)
 ·exact Qt _ _ _ (by omega)
 ·rename_i z hz;refine Qt _ _ _ ?_;obtain⟨y,hy⟩:=Qt 1 13 l (by omega);rw[hy,aW]at hz;cases y<;>have:=Option.some.inj hz<;>omega
theorem ah6(l:List ct)(hl:l.length≤1048576)(ht:∀x∈l,tz x≤1048576):Tt (K3 FU l):=by
 unfold K3;refine cj (λ_=>bg _) λ_=>br (t0 (G6 FU l) l (λkk i h1 h2 h3=>?_) (λkk i h=>?_) (by unfold FU;omega)) λ_ _=>jl λ_ _=>bg _
 ·rw[G6,cq (by omega)];have hx:=ht _ h2;refine j8 h1 (gQ h1 (br (br (ah4 _ (by unfold tz at hx;omega)) λ_ _=>cm (cj (λ_=>bg _) λ_=>lI (by unfold ln;omega) (cm (br (ah5 _ ?_ ?_) λ_ _=>bg _)))) λ_ _=>cj (λ_=>bg _) λ_=>h3))
  ·rw[ff];simp[ln];omega
  ·have e:ff l (i:Int) (ln l)=l.drop i:=by
    rw[ff];simp only[ln,Int.toNat_natCast];exact List.take_of_length_le (by simp)
   rw[e,show gi (l.drop i) 0=gi l (i:Int)from by rw[show(0:Int)=((0:Nat):Int)from rfl,l9 _ 0 (by simp;omega),l9 l i h1];simp];exact hx
 ·rw[G6];exact j9 h
theorem ah7:∀(k:Nat)(v:List ax),cD v<k→cD v≤1048576→Tt (DW FU k v):=by
 intro k
 induction k with
 |zero=>intro v h;omega
 |succ k ih=>
  intro v hk hb;have hl:=qy v;rw[DW];unfold O0 NZ;refine br (br (br (t0 (G8 FU (DW FU k) v) v (λkk i h1 h2 h3=>?_) (λkk i h=>?_) (by unfold FU;omega)) λ_ _=>jl λ_ _=>bg _) λ_ _=>bg _) λ_ _=>bg _
  ·have h4:=rK h2;have h5:=qx (gi v (i:Int));rw[G8,cq (by omega)];refine j8 h1 (gQ h1 (br ?_ λ_ _=>cj (λ_=>bg _) λ_=>h3));unfold NY;exact cm (br (cj (λ_=>bg _) λ_=>ih _ (by omega) (by omega)) λ_ _=>cm (bg _))
  ·rw[G8];exact j9 h
theorem ah8(v:List ax)(hl:v.length≤1048576):Tt (K5 FU v):=by
 unfold K5 O2;refine br (br (t0 (G9 FU v) v (λkk i h1 h2 h3=>?_) (λkk i h=>?_) (by unfold FU;omega)) λ_ _=>jl λ_ _=>bg _) λ_ _=>bg _
 ·rw[G9,cq (by omega)];refine j8 h1 (gQ h1 ?_)
  with_reducible repeat' first|exact h3|exact bg _|apply cm|(apply cj<;>intro _)|(apply br<;>try intro _ _)|apply lI
 ·rw[G9];exact j9 h
theorem ah9(s:a6)(hs:s.length≤1048576):Tt (JT FU s):=by
 unfold JT
 with_reducible repeat' first|exact bg _|apply cm|(apply cj<;>intro _)|(apply br<;>try intro _ _)|apply lI|(apply jl;intro _ _)
 ·exact Xx _ _
 ·exact LZ s hs
theorem a3z(d:cR)(h:zD d≤1048576):Tt (Ga FU d):=by
 have hz:=CE d;have hv:cD d.Value≤1048576:=by omega
 have hl:=qy d.Value;unfold Ga;have hf:Tt (G5 FU d.Value)∧∀y,G5 FU d.Value=some y→y.1.length≤1048576∧∀x∈y.1,tz x≤1048576:=by
  unfold G5;rw[Q7 FU X0 d.Value hv,aW,agX d.Value hv];cases(EU d.Value !=0)
  ·refine⟨bg _,λy e=>?_⟩;rw[be,aW]at e;rw[←Option.some.inj e];exact⟨by have:=Xw _ d.Value (dc _);have:=a3y d.Value;show(ng d.Value).length≤_;omega,λx hx=>by have:=agY _ d.Value (dc _) x hx;omega⟩
  ·refine⟨bg _,λy e=>?_⟩;rw[bo]at e;rw[←Option.some.inj e];exact⟨by simp,λx hx=>by cases hx⟩
 refine br hf.1 λy ey=>br (ah9 _ (by omega)) λb _=>br (cj (λ_=>bg _) λ_=>ah6 _ (hf.2 y ey).1 (hf.2 y ey).2) λc _=>cm (br (cj (λ_=>bg _) λ_=>ah7 _ _ (by unfold FU;omega) hv) λ_ _=>cj (λ_=>bg _) λ_=>br (ah8 _ (by omega)) λ_ _=>cj (λ_=>bg _) λ_=>br (cj (λ_=>Xx _ _) λ_=>bg _) λq _=>lI ?_ (lI ?_ (cm (cm (cj (λ_=>bg _) λ_=>bg _)))))
 ·intro h1 _;exact⟨by omega,yz h1⟩
 ·intro _ h1 _;have h2:=yz h1;unfold ln at h2⊢;rw[lX (by omega) (by omega)];omega
theorem a3A(s:a6)(hs:s.length≤1048576):Tt (FW FU s):=by
 unfold FW;exact br (cj (λ_=>LZ s hs) λ_=>bg _) λ_ _=>bg _
theorem aha(rec:bL→iR→Bool→Option Bool)(x:fq)(p:iR)(hb:zS x≤1048576)(hr:∀c∈x.ae,∀p b,Tt (rec c p b)):Tt (JH FU rec x p):=by
 have hz:=I7 x;have hl:=nX x.ae;have hC:∀d h,Tt (JG FU rec x.ae d h x.an x.bm x.Op x.Value x.AP x.mg.A x.mg.B x.Of x.ae):=λd h=>by
  unfold JG NL;refine br (br (t0 _ x.ae (λkk i h1 h2 h3=>?_) (λkk i h=>?_) (by unfold FU;omega)) λ_ _=>jl λ_ _=>bg _) λ_ _=>bg _
  ·rw[JF,cq (by omega)];refine j8 h1 (gQ h1 (br ?_ λ_ _=>cj (λ_=>bg _) λ_=>h3));unfold NI;exact br (hr _ h2 _ _) λ_ _=>bg _
  ·rw[JF];exact j9 h
 unfold JH
 with_reducible repeat' first|exact bg _|apply cm|(apply cj<;>intro _)|(apply br<;>try intro _ _)|apply lI|(apply jl;intro _ _)
 ·exact hC _ _
 ·exact a3A _ (by omega)
theorem ahb(rec:bL→iR→Bool→Option Bool)(c:fT)(p:iR)(hb:zP c≤1048576)(hr:∀x∈c.bA,∀y∈x.ae,∀p b,Tt (rec y p b)):Tt (JK FU rec c p):=by
 have hz:=I6 c;have hl:=nS c.bA;unfold JK;refine cm (br (cj (λ_=>a3A _ (by omega)) λ_=>bg _) λ_ _=>cm (cj (λ_=>bg _) λ_=>br (t0 (FY FU rec c p) c.bA (λkk i h1 h2 h3=>?_) (λkk i h=>?_) (by unfold FU;omega)) λ_ _=>jl λ_ _=>cm (bg _)))
 ·have h4:=mS h2;rw[FY,cq (by omega)];exact j8 h1 (gQ h1 (br (aha rec _ p (by omega) (hr _ h2)) λ_ _=>cj (λ_=>bg _) λ_=>h3))
 ·rw[FY];exact j9 h
theorem ahc:∀(k:Nat)(c:bL)(p:iR)(b:Bool),zX c<k→zX c≤1048576→Tt (G0 FU k c p b):=by
 intro k
 induction k with
 |zero=>intro c p b h;omega
 |succ k ih=>
  intro c p b hk hb;have hz:=LL c;have hl:=nP c.bt;rw[G0];refine cm (cm (cm (cj (λ_=>bg _) λ_=>br (t0 (FZ FU c) c.iE (λkk i h1 h2 h3=>?_) (λkk i h=>?_) (by unfold FU;omega)) λ_ _=>jl λ_ _=>br ?_ λ_ _=>bg _)))
  ·rw[FZ,cq (by omega)];exact j8 h1 (gQ h1 (cm (cj (λ_=>bg _) λ_=>h3)))
  ·rw[FZ];exact j9 h
  ·unfold NO NN;refine br (br (t0 _ c.bt (λkk i h1 h2 h3=>?_) (λkk i h=>?_) (by unfold FU;omega)) λ_ _=>jl λ_ _=>bg _) λ_ _=>bg _
   ·have h4:=mP h2;have h5:=I6 (gi c.bt (i:Int));rw[JM,cq (by omega)];refine j8 h1 (gQ h1 (br ?_ λ_ _=>cj (λ_=>bg _) λ_=>h3));unfold NM;exact br (ahb _ _ _ (by omega) (λx hx y hy p b=>by
     have g1:=mS hx;have g2:=I7 x;have g3:=mX hy;exact ih y p b (by omega) (by omega))) λ_ _=>bg _
   ·rw[JM];exact j9 h
theorem ahd:∀(k:Nat)(l:List bL),mA l<k→mA l≤1048576→Tt (rp FU k l):=by
 intro k
 induction k with
 |zero=>intro l h;omega
 |succ k ih=>
  intro l hk hb;have hl:=nX l;rw[rp];refine br (nc (λkk (a:Int) i=>Bh FU l (rp FU k) kk a i) l (λ_ _=>True) (λkk i a h1 h2 _ h3=>?_) (λkk i a h=>?_) FU 0 (ln l) (by unfold FU;omega) trivial) λ_ _=>bg _
  ·have h4:=mX h2;have h5:=LL (gi l (i:Int));have h6:=nP (gi l (i:Int)).bt;show Tt (Bh FU l (rp FU k) (kk+1) a (i:Int));rw[Bh,cq (by omega)];refine j8 h1 (br (gQ h1 (nc (λkk (a:Int) j=>Bg FU l (i:Int) (rp FU k) kk a j) (gi l (i:Int)).bt (λ_ _=>True) (λkk j a g1 g2 _ g3=>?_) (λkk j a h=>?_) FU 0 a (by unfold FU;omega) trivial)) λb _=>h3 b trivial)
   ·have g4:=mP g2;have g5:=I6 (gi (gi l (i:Int)).bt (j:Int));have g6:=nS (gi (gi l (i:Int)).bt (j:Int)).bA;show Tt (Bg FU l (i:Int) (rp FU k) (kk+1) a (j:Int));rw[Bg,cq (by omega)];refine j8 g1 (br (gQ g1 (nc (λkk (a:Int) q=>Be FU l (i:Int) (j:Int) (rp FU k) kk a q) (gi (gi l (i:Int)).bt (j:Int)).bA (λ_ _=>True) (λkk q a e1 e2 _ e3=>?_) (λkk q a h=>?_) FU 0 a (by unfold FU;omega) trivial)) λb _=>g3 b trivial)
    ·have e4:=mS e2;have e5:=I7 (gi (gi (gi l (i:Int)).bt (j:Int)).bA (q:Int));show Tt (Be FU l (i:Int) (j:Int) (rp FU k) (kk+1) a (q:Int));rw[Be,cq (by omega)];exact cm (j8 e1 (gQ e1 (cm (cm (cm (cm (cm (cm (cm (cm (br (ih _ (by omega) (by omega)) λy _=>e3 _ trivial)))))))))))
    ·show Tt (Be FU l (i:Int) (j:Int) (rp FU k) (kk+1) a (q:Int));rw[Be];exact cm (j9 h)
   ·show Tt (Bg FU l (i:Int) (rp FU k) (kk+1) a (j:Int));rw[Bg];exact j9 h
  ·show Tt (Bh FU l (rp FU k) (kk+1) a (i:Int));rw[Bh];exact j9 h
theorem ahe(l:List bL)(hb:mA l≤1048576):Tt (JN FU l):=by
 have hl:=nX l;unfold JN;refine br (cj (λ_=>bg _) λ_=>?_) λ_ _=>cj (λ_=>bg _) λ_=>br (ahd _ l (by unfold FU;omega) hb) λ_ _=>cj (λ_=>bg _) λ_=>bg _;unfold NR NQ;refine br (br (t0 (G1 FU l) l (λkk i h1 h2 h3=>?_) (λkk i h=>?_) (by unfold FU;omega)) λ_ _=>jl λ_ _=>bg _) λ_ _=>bg _
 ·have h4:=mX h2;rw[G1,cq (by omega)];refine j8 h1 (gQ h1 (br ?_ λ_ _=>cj (λ_=>bg _) λ_=>h3));unfold NP;exact br (ahc _ _ _ _ (by unfold FU;omega) (by omega)) λ_ _=>bg _
 ·rw[G1];exact j9 h
theorem ahf(s:a6)(hs:s.length≤1048576):Tt (K7 FU s):=by
 unfold K7;refine br ?_ λ_ _=>br (cj (λ_=>LZ s hs) λ_=>bg _) λ_ _=>cm (cm (bg _));rw[LH _ _ (by decide)];exact bg _
theorem ahg(n:Int):Tt (K8 FU [n]):=by
 unfold K8;refine br (t0 (Ge FU [n]) [n] (λkk i h1 h2 h3=>?_) (λkk i h=>?_) (by simp;unfold FU;omega)) λ_ _=>jl λ_ _=>bg _
 ·rw[Ge,cq (by simp at h1;omega)];refine j8 h1 (gQ h1 ?_)
  with_reducible repeat' first|exact h3|exact bg _|apply cm|(apply cj<;>intro _)|(apply br<;>try intro _ _)|apply lI
 ·rw[Ge];exact j9 h
theorem a3B(c:bu)(hb:zC c≤1048576):Tt (Gg FU c):=by
 have hz:=u4 c;have hl:=nC c.ae;unfold Gg;refine cm (cj (λ_=>bg _) λ_=>br (t0 (Gf FU c) c.ae (λkk i h1 h2 h3=>?_) (λkk i h=>?_) (by unfold FU;omega)) λ_ _=>jl λ_ _=>bg _)
 ·have h4:=mC h2;have h5:=u4 (gi c.ae (i:Int));rw[Gf,cq (by omega)];refine j8 h1 (br (gQ h1 ?_) λ_ _=>jl λ_ _=>h3)
  with_reducible repeat' first|exact bg _|apply cm|(apply cj<;>intro _)|(apply br<;>try intro _ _)|apply lI|(apply jl;intro _ _)
  ·exact ahf _ (by omega)
  ·unfold O5;exact br (ahg _) λ_ _=>bg _
 ·rw[Gf];exact j9 h
theorem ahh(c:bu):Tt (Kb c):=by
 unfold Kb;exact lI (λe=>⟨by omega,yz e⟩) (cm (bg _))
theorem Xy{α:Type}{l:List α}{b:Bool}(h:(cond b (ln l==1) false)=true):0≤(0:Int)∧(0:Int)<ln l:=by
 cases b
 ·cases h
 ·have:=eq_of_beq (show(ln l==1)=true from h);omega
theorem ahi(c:bu)(hb:zC c≤1048576):Tt (Kc FU c):=by
 have hz:=u4 c;unfold Kc;refine cj (λ_=>cm (lI (λh=>Xy h) (br (cj (λh=>a3B _ ?_) λ_=>bg _) λy _=>lI (λh=>?_) (br (cj (λ_=>ahh _) λ_=>bg _) λ_ _=>bg _)))) λ_=>br (a3B c hb) λ_ _=>bg _
 ·have h1:=Xy h;have:gi c.ae (0:Int)∈c.ae:=qz (i:=0) (by unfold ln at h1;omega);have:=mC this;omega
 ·cases hx:(cond (mV c) (ln c.ae==1) false)
  ·rw[hx]at h;cases h
  ·exact Xy hx
theorem a3C(c:bu)(hb:zC c≤1048576):Tt (Gj FU c):=by
 have hz:=u4 c;have hl:=nC c.ae;unfold Gj;refine cm (cm (cm (br (cj (λ_=>?_) λ_=>bg _) λ_ _=>cm (cj (λ_=>bg _) λ_=>bg _))));unfold O9 O8;refine br (br (t0 (Gi FU c.ae) c.ae (λkk i h1 h2 h3=>?_) (λkk i h=>?_) (by unfold FU;omega)) λ_ _=>jl λ_ _=>bg _) λ_ _=>bg _
 ·have h4:=mC h2;rw[Gi,cq (by omega)];refine j8 h1 (gQ h1 (br ?_ λ_ _=>cj (λ_=>bg _) λ_=>h3));unfold O7;exact br (ahi _ (by omega)) λ_ _=>bg _
 ·rw[Gi];exact j9 h
theorem Xz(v:List ax)(hb:cD v≤1048576):Tt (DO FU v):=by
 unfold DO;rw[Q7 FU (by decide) v hb,aW,show JR FU v 0=_ from a2U FU (by decide) FU v 0 (by unfold FU;omega) hb];exact cj (λ_=>bg _) λ_=>br (bg _) λ_ _=>bg _
theorem ahj:∀(k:Nat)(c:bu)(n:Int),zC c<k→zC c≤1048576→Tt (zf FU k c n):=by
 intro k
 induction k with
 |zero=>intro c n h;omega
 |succ k ih=>
  intro c n hk hb;have hz:=u4 c;have hD:=CE c.aS;have hl:=nC c.ae;rw[zf];refine cj (λ_=>bg _) λ_=>cj (λ_=>br (Xz _ (by omega)) λ_ _=>cm (cm (br (cj (λ_=>a3z _ (by omega)) λ_=>bg _) λ_ _=>bg _))) λ_=>cj (λ_=>cm (bg _)) λ_=>br ?_ λ_ _=>cj (λ_=>cm (cm (cj (λ_=>bg _) λ_=>br (nc (λkk (a:Int×Int) i=>Bp FU c (zf FU k) kk a.1 i a.2) c.ae (λ_ _=>True) (λkk i a h1 h2 _ h3=>?_) (λkk i a h=>?_) FU 0 (0,J (n+1)) (by unfold FU;omega) trivial) λ_ _=>jl λ_ _=>bg _))) λ_=>bg _
  ·with_reducible repeat' first|exact bg _|apply cm|(apply cj<;>intro _)|(apply br<;>try intro _ _)|apply lI|(apply jl;intro _ _)
  ·have h4:=mC h2;show Tt (Bp FU c (zf FU k) (kk+1) a.1 (i:Int) a.2);rw[Bp,cq (by omega)];refine j8 h1 (gQ h1 (br (ih _ _ (by omega) (by omega)) λy _=>cj (λ_=>bg _) λ_=>br ?_ λz _=>h3 (_,_) trivial));exact cj (λ_=>bg _) λ_=>bg _
  ·show Tt (Bp FU c (zf FU k) (kk+1) a.1 (i:Int) a.2);rw[Bp];exact j9 h
theorem XB(c:bu)(hb:zC c≤1048576):Tt (E1 FU c):=by
 unfold E1;exact br (ahj _ c _ (by unfold FU;omega) hb) λ_ _=>cm (cj (λ_=>bg _) λ_=>bg _)
mutual
def Ak:bu→List cR
 | .mk K _ _ D l=>cond (K==7) [D] (pV l)
def pV:List bu→List cR
 |[]=>[]
 |v::r=>Ak v++pV r
end
theorem XC(c:bu):Ak c=cond (c.an==7) [c.aS] (pV c.ae):=by obtain⟨a,b,d,e,l⟩:=c;rw[Ak];rfl
theorem a3D(n:Nat):∀c:bu,zC c≤n→(Ak c).length≤zC c∧∀d∈Ak c,zD d≤zC c:=by
 induction n using Nat.strongRecOn with
 |_ n ih=>
  intro c h;have hz:=u4 c;have hD:=CE c.aS;have hl:∀l:List bu,(∀x∈l,zC x<n)→(pV l).length≤zL zC l∧∀d∈pV l,zD d≤zL zC l:=by
   intro l
   induction l with
   |nil=>intro _;rw[pV];exact⟨iW _,λd hd=>by cases hd⟩
   |cons v r ET=>
    intro hm;have h1:=ih (zC v) (hm v List.mem_cons_self) v (dc _);have h2:=ET λx hx=>hm x (List.mem_cons_of_mem _ hx);rw[pV,zL,fR];refine⟨by omega,λd hd=>?_⟩;rcases List.mem_append.1 hd with hd|hd
    ·have:=h1.2 d hd;omega
    ·have:=h2.2 d hd;omega
  have hl:=hl c.ae (λx hx=>by have:=mC hx;omega);rw[←Qe]at hl;rw[XC];cases(c.an==7)
  ·refine⟨by have:=hl.1;rw[be];omega,λd hd=>by have:=hl.2 d hd;omega⟩
  ·refine⟨by rw[bo,List.length_singleton];omega,λd hd=>?_⟩;rw[List.mem_singleton.1 hd];omega
theorem ahk(l:List bu):(pV l).length≤sR l:=by
 induction l with
 |nil=>exact iW _
 |cons v r ih=>
  have:=(a3D _ v (dc _)).1;rw[pV,sR,fR];omega
theorem a3E{l:List bu}{i:Nat}(h:i<l.length):pV (l.drop i)=Ak (gi l (i:Int))++pV (l.drop (i+1)):=by
 rw[rX h,pV,←l9 l i h]
theorem ahl(v:List ax)(i:Nat)(h:i<v.length):bO v (i:Int) (ax.mk (gi v (i:Int)).aX (gi v (i:Int)).ae)=v:=by
 have e:ax.mk (gi v (i:Int)).aX (gi v (i:Int)).ae=v[i]:=by
  rw[l9 v i h];obtain⟨t,l⟩:=v[i];rfl
 rw[e];unfold bO;rw[show((i:Int)).toNat=i from Int.toNat_natCast i,List.set_getElem_self]
theorem ahm:∀(k:Nat)(v:List ax),cD v<k→cD v≤1048576→Bs FU k v=some v:=by
 intro k
 induction k with
 |zero=>intro v h;omega
 |succ k ih=>
  intro v h hb;have hl:=qy v;have H:∀(kk i:Nat),v.length-i<kk→Gp FU v (Bs FU k) kk v (i:Int)=some v:=by
   intro kk
   induction kk with
   |zero=>intro i h;omega
   |succ kk D8=>
    intro i h;rw[Gp];by_cases h1:i<v.length
    ·have h3:=rK (qz h1);have h4:=qx (gi v (i:Int));rw[jP h1,bo,gV h1,ih _ (by omega) (by omega),aW,lt_eq,ahl v i h1,cq (by omega),D8 (i+1) (by omega)]
    ·rw[iQ (by omega)];rfl
  rw[Bs];unfold Og;rw[bS (by unfold ln;rw[il];omega),lt_eq,aW];show Option.bind (Gp FU v (Bs FU k) FU v ((0:Nat):Int)) _=_;rw[H FU 0 (by unfold FU;omega)];rfl
theorem a3F:∀(v:List ax)(k:Nat),cD (v.drop k)≤cD v
 |[],k=>by simp
 |x::v,0=>dc _
 |x::v,k+1=>by rw[List.drop_succ_cons,cD];have:=a3F v k;omega
theorem a3G:∀(v:List ax)(k:Nat),cD (v.take k)≤cD v
 |[],k=>by simp
 |x::v,0=>by simp[cD]
 |x::v,k+1=>by rw[List.take_succ_cons,cD,cD];have:=a3G v k;omega
theorem ahn(v:List ax)(hl:v.length≤1048576):∀(kk i:Nat),v.length-i<kk→i≤v.length→∃z:Nat,Gq FU v kk (i:Int)=some (z:Int)∧z≤v.length:=by
 intro kk
 induction kk with
 |zero=>intro i h;omega
 |succ kk ih=>
  intro i hk hi;rw[Gq,cq (by omega)];by_cases h:i<v.length
  ·unfold Gn;rw[jP h,bo,gV h,aW,bo];cases(gi v (i:Int)).aX.an==13
   ·exact⟨i,rfl,hi⟩
   ·exact ih (i+1) (by omega) (by omega)
  ·rw[iQ (by omega)];exact⟨i,rfl,hi⟩
theorem aho(v:List ax)(hl:v.length≤1048576)(z:Nat):∀(kk j:Nat),j<kk→z≤j→j≤v.length→∃y:Nat,Gr FU v (z:Int) kk (j:Int)=some (y:Int)∧z≤y∧y≤v.length:=by
 intro kk
 induction kk with
 |zero=>intro j h;omega
 |succ kk ih=>
  intro j hk hz hj;rw[Gr];by_cases h:z<j
  ·have e:J ((j:Int)-1)=((j-1:Nat):Int):=lX (by omega) (by omega);unfold Gn;rw[show decide ((z:Int)<(j:Int))=true from ew (by omega),bo,e,gV (by omega),aW,bo];cases(gi v ((j-1:Nat):Int)).aX.an==13
   ·exact⟨j,rfl,hz,hj⟩
   ·exact ih (j-1) (by omega) (by omega) (by omega)
  ·rw[show decide ((z:Int)<(j:Int))=false from dt (by omega)];exact⟨j,rfl,hz,hj⟩
theorem ahp(v:List ax)(hb:cD v≤1048576):∃y,Kk FU v=some y∧cD y.1≤cD v:=by
 have hl:=qy v;unfold Kk;rw[Q7 FU (by decide) v hb,aW];cases(EU v !=0)
 ·obtain⟨z,e1,h1⟩:=ahn v (by omega) FU 0 (by unfold FU;omega) (iW _);obtain⟨y,e2,h2,h3⟩:=aho v (by omega) z FU v.length (by unfold FU;omega) h1 (dc _);have u7:Gq FU v FU 0=some (z:Int):=e1;have XD:Gr FU v (z:Int) FU (ln v)=some (y:Int):=e2;have hs:cD (ff v (z:Int) (y:Int))≤cD v:=by
   rw[ff];exact Nat.le_trans (a3G _ _) (a3F _ _)
  rw[be,u7,aW,XD,aW,bS (by unfold ln;omega),lt_eq];unfold Up;rw[ahm FU _ (by unfold FU;omega) (by omega),aW];exact⟨_,rfl,hs⟩
 ·exact⟨_,rfl,by simp[cD]⟩
abbrev Dk(d:cR):Prop:=d.bm.length≤1048576∧cD d.Value≤1048576
theorem a3H:∀(k:Nat)(c:bu),zC c<k→zC c≤1048576→∃ds,Bt FU k c=some ds∧ds.length=(Ak c).length∧∀d∈ds,Dk d:=by
 intro k
 induction k with
 |zero=>intro c h;omega
 |succ k ih=>
  intro c hk hb;have hz:=u4 c;have hD:=CE c.aS;have hl:=nC c.ae;have hd:=ahk c.ae;rw[Bt,XC];cases c.an==7
  ·have L:∀(kk i:Nat)(a:List cR),c.ae.length-i<kk→a.length+(pV (c.ae.drop i)).length≤1048576→(∀d∈a,Dk d)→∃ds,Gs FU c (Bt FU k) kk a (i:Int)=some ds∧ds.length=a.length+(pV (c.ae.drop i)).length∧∀d∈ds,Dk d:=by
    intro kk
    induction kk with
    |zero=>intro i a h;omega
    |succ kk XE=>
     intro i a h ha hq;rw[Gs];by_cases hi:i<c.ae.length
     ·have h1:=mC (qz hi);obtain⟨ds,e,g1,g2⟩:=ih (gi c.ae (i:Int)) (by omega) (by omega);rw[a3E hi,fR]at ha⊢;rw[jP hi,bo,gV hi,e,aW,bS (by unfold ln;omega),lt_eq,cq (by omega)];obtain⟨ds2,e2,g3,g4⟩:=XE (i+1) (a++ds) (by omega) (by rw[fR];omega) (λd hd=>by
       rcases List.mem_append.1 hd with hd|hd
       ·exact hq d hd
       ·exact g2 d hd)
      exact⟨ds2,e2,by rw[g3,fR];omega,g4⟩
     ·rw[iQ (by omega),be,IU (by omega)];exact⟨a,rfl,by rw[pV];rfl,hq⟩
   obtain⟨ds,e,g1,g2⟩:=L FU 0 [] (by unfold FU;omega) (by rw[pw];simp;omega) (λd hd=>by cases hd);have e':Gs FU c (Bt FU k) FU ([]:List cR) 0=some ds:=e;rw[be,be,e',aW];exact⟨ds,rfl,by rw[g1,pw];simp,g2⟩
  ·obtain⟨y,e,g⟩:=ahp c.aS.Value (by omega);rw[bo,bo,e,aW];exact⟨_,rfl,rfl,λd hd=>by rw[List.mem_singleton.1 hd];exact⟨by show c.aS.bm.length≤_;omega,by show cD y.1≤_;omega⟩⟩
theorem ahq(w:Int)(hJ:List Bool)(hy:hJ.length≤1048576):∀(k:Nat)(c:bu)(n:Nat),zC c<k→zC c≤1048576→n+(Ak c).length≤hJ.length→∃(b:Bool)(n':Nat),zE FU k c w (n:Int) hJ=some (b,(n':Int))∧n'≤n+(Ak c).length:=by
 intro k
 induction k with
 |zero=>intro c n h;omega
 |succ k ih=>
  intro c n hk hb hn;have hz:=u4 c;have hl:=nC c.ae;rw[zE,lt_eq];cases c.an==4 with
  |true=>exact⟨_,n,rfl,by omega⟩
  |false=>
   rw[be];cases c.an==5 with
   |true=>exact⟨_,n,rfl,by omega⟩
   |false=>
    rw[be];cases c.an==6 with
    |true=>exact⟨_,n,rfl,by omega⟩
    |false=>
     rw[be];rw[XC]at hn⊢;cases h7:c.an==7 with
     |true=>
      rw[h7]at hn;rw[bo]at hn⊢;rw[List.length_singleton]at hn;unfold OR;have e:J (J ((n:Int)+1)-1)=(n:Int):=by rw[cq (by omega),lX (by omega) (by omega)];rfl
      rw[bo,e,gV (by omega),aW,cq (by omega)];exact⟨_,n+1,rfl,by simp⟩
     |false=>
      rw[h7]at hn;rw[be]at hn⊢;rw[be];cases c.an==8 with
      |true=>exact⟨_,n,rfl,by omega⟩
      |false=>
       have L:∀(kk i n:Nat)(a b:Bool),c.ae.length-i<kk→n+(pV (c.ae.drop i)).length≤hJ.length→∃(a' b':Bool)(n':Nat),H0 FU c w hJ (zE FU k) kk a b (i:Int) (n:Int)=some (a',b',(n':Int))∧n'≤n+(pV (c.ae.drop i)).length:=by
        intro kk
        induction kk with
        |zero=>intro i n a b h;omega
        |succ kk XE=>
         intro i n a b h hn;rw[H0];by_cases hi:i<c.ae.length
         ·have h1:=mC (qz hi);rw[a3E hi,fR]at hn⊢;obtain⟨x,n1,e,g1⟩:=ih (gi c.ae (i:Int)) n (by omega) (by omega) (by omega);rw[jP hi,bo,gV hi,e,aW,cq (by omega)];obtain⟨a',b',n',e2,g2⟩:=XE (i+1) n1 (cond a x false) (cond b true x) (by omega) (by omega);exact⟨a',b',n',e2,by omega⟩
         ·rw[iQ (by omega),be];exact⟨a,b,n,rfl,by omega⟩
       obtain⟨a',b',n',e,g⟩:=L FU 0 n true false (by unfold FU;omega) (by rw[pw];exact hn);rw[pw]at g;have e':H0 FU c w hJ (zE FU k) FU true false 0 (n:Int)=some (a',b',(n':Int)):=e;rw[be,e',aW];dsimp only;cases c.an==1 with
       |true=>exact⟨_,n',rfl,g⟩
       |false=>
        rw[be];cases c.an==2 with
        |true=>exact⟨_,n',rfl,g⟩
        |false=>exact⟨_,n',rfl,g⟩
theorem ahr(c:bu)(e:kM)(hJ:List Bool)(hb:zC c≤1048576)(hw:e.dd≤1000000000)(hy:hJ.length≤1048576):Tt (L1 FU c e hJ):=by
 unfold L1 OQ;refine br (br (a3C c hb) λ_ _=>cj (λ_=>br (XB c hb) λ_ _=>bg _) λ_=>bg _) λ_ _=>cj (λ_=>bg _) λ_=>cj (λ_=>bg _) λ_=>lI (dt (by omega)) ?_;obtain⟨ds,e1,g1,g2⟩:=a3H FU c (by unfold FU;omega) hb;unfold Km;rw[e1,aW];refine cm (cj (λ_=>bg _) λh=>?_);have hn:ln hJ=ln ds:=by
  cases hx:(ln hJ !=ln ds)
  ·simpa using hx
  ·rw[hx]at h;revert h;cases decide (1000000000<e.dd)<;>intro h<;>cases h
 obtain⟨b,n',e2,_⟩:=ahq (J (1000*e.dd)) hJ hy FU c 0 (by unfold FU;omega) hb (by unfold ln at hn;omega);unfold Vt;have XD:zE FU FU c (J (1000*e.dd)) 0 hJ=some (b,(n':Int)):=e2;rw[XD];exact bg _
theorem ahs(r:bB)(e:kM)(hb:zR r≤1048576)(hw:e.dd≤1000000000):Tt (BR FU r e):=by
 have hz:=LM r;unfold BR;have K:Tt (cond (r.an==3) (Option.bind (E6 FU r.aT) λgK=>BQ FU gK FU ([]:List Bool) 0) (cond (r.an==2) (some (.inr ([]:List Bool))) (some (.inl true))))∧∀z,cond (r.an==3) (Option.bind (E6 FU r.aT) λgK=>BQ FU gK FU ([]:List Bool) 0) (cond (r.an==2) (some (.inr ([]:List Bool))) (some (.inl true)))=some z→match z with| .inl _=>True| .inr s=>s.length≤1048576:=by
  cases r.an==3
  ·rw[be];cases r.an==2
   ·exact⟨bg _,λz h=>by rw[←Option.some.inj h];trivial⟩
   ·exact⟨bg _,λz h=>by rw[←Option.some.inj h];simp⟩
  ·rw[bo];have D:∃ds x,E6 FU r.aT=some (ds,x)∧ds.length≤1048576∧∀d∈ds,Dk d:=by
    unfold E6;obtain⟨s,es⟩:=XB r.aT (by omega);rw[es,aW];cases(s !=0)
    ·obtain⟨ds,e1,g1,g2⟩:=a3H FU r.aT (by unfold FU;omega) (by omega);have:=(a3D _ r.aT (dc _)).1;unfold Km;rw[be,e1,aW];exact⟨ds,0,rfl,by omega,g2⟩
    ·exact⟨[],s,rfl,by simp,λd hd=>by cases hd⟩
   obtain⟨ds,x,eD,gl,gq⟩:=D;rw[eD,aW];have L:∀(kk i:Nat)(a:List Bool),ds.length-i<kk→i≤ds.length→a.length=i→∃s:List Bool,BQ FU (ds,x) kk a (i:Int)=some (.inr s)∧s.length=ds.length:=by
    intro kk
    induction kk with
    |zero=>intro i a h;omega
    |succ kk ih=>
     intro i a h hi ha;rw[BQ];dsimp only;by_cases h1:i<ds.length
     ·have q:=gq _ (qz h1);rw[jP h1,bo,gV h1,afO _ q.1 q.2,aW,bS (by simp only[ln,List.length_singleton];omega),lt_eq,cq (by omega)];exact ih (i+1) _ (by omega) (by omega) (by rw[fR,ha];rfl)
     ·rw[iQ (by omega),be];exact⟨a,rfl,by omega⟩
   obtain⟨s,e1,g1⟩:=L FU 0 [] (by unfold FU;omega) (iW _) rfl;have u7:BQ FU (ds,x) FU ([]:List Bool) 0=some (.inr s):=e1;rw[u7];exact⟨bg _,λz h=>by rw[←Option.some.inj h];show s.length≤_;omega⟩
 refine br K.1 λz u6=>?_;have:=K.2 z u6;cases z with
 |inl a=>exact⟨a,rfl⟩
 |inr s=>exact br (ahr r.aT e s (by omega) hw this) λ_ _=>bg _
theorem aht(l:List a6)(hl:l.length≤1048576):Tt (Jw FU l):=by
 unfold Jw NE NC;refine cm (br (cj (λ_=>br (br (t0 (FT FU l) l (λkk i h1 h2 h3=>?_) (λkk i h=>?_) (by unfold FU;omega)) λ_ _=>jl λ_ _=>bg _) λ_ _=>bg _) λ_=>bg _) λ_ _=>bg _)
 ·rw[FT,cq (by omega)];exact j8 h1 (gQ h1 (cj (λ_=>bg _) λ_=>h3))
 ·rw[FT];exact j9 h
theorem a3I:∀l:List a6,l.length≤(l.map λx=>x.length+1).sum
 |[]=>dc _
 |x::l=>by have:=a3I l;rw[List.map_cons,List.sum_cons,fD];omega
theorem ahu(l:List (List a6))(hb:jL l≤1048576):Tt (Jx FU l):=by
 have hl:=nN l;unfold Jx NG;refine br (br (t0 (FV FU l) l (λkk i h1 h2 h3=>?_) (λkk i h=>?_) (by unfold FU;omega)) λ_ _=>jl λ_ _=>bg _) λ_ _=>bg _
 ·have h4:=mN h2;rw[FV,cq (by omega)];refine j8 h1 (gQ h1 (br ?_ λ_ _=>cj (λ_=>bg _) λ_=>h3));unfold NF;have h5:=a3I (gi l (i:Int));exact br (aht _ (by unfold sS at h4;omega)) λ_ _=>bg _
 ·rw[FV];exact j9 h
theorem ahv:∀(k:Nat)(l:List bL),mA l<k→mA l≤1048576→Tt (rj FU k l):=by
 intro k
 induction k with
 |zero=>intro l h;omega
 |succ k ih=>
  intro l hk hb;have hl:=nX l;rw[rj];refine br (nc (λkk (a:Int) i=>B9 FU l (rj FU k) kk a i) l (λ_ _=>True) (λkk i a h1 h2 _ h3=>?_) (λkk i a h=>?_) FU 0 0 (by unfold FU;omega) trivial) λ_ _=>bg _
  ·have h4:=mX h2;have h5:=LL (gi l (i:Int));have h6:=nP (gi l (i:Int)).bt;show Tt (B9 FU l (rj FU k) (kk+1) a (i:Int));rw[B9,cq (by omega)];refine j8 h1 (br (gQ h1 (nc (λkk (a:Int) j=>B8 FU l (i:Int) (rj FU k) kk a j) (gi l (i:Int)).bt (λ_ _=>True) (λkk j a g1 g2 _ g3=>?_) (λkk j a h=>?_) FU 0 a (by unfold FU;omega) trivial)) λb _=>h3 b trivial)
   ·have g4:=mP g2;have g5:=I6 (gi (gi l (i:Int)).bt (j:Int));have g6:=nS (gi (gi l (i:Int)).bt (j:Int)).bA;show Tt (B8 FU l (i:Int) (rj FU k) (kk+1) a (j:Int));rw[B8,cq (by omega)];refine j8 g1 (br (gQ g1 (nc (λkk (a:Int) q=>B3 FU l (i:Int) (j:Int) (rj FU k) kk a q) (gi (gi l (i:Int)).bt (j:Int)).bA (λ_ _=>True) (λkk q a e1 e2 _ e3=>?_) (λkk q a h=>?_) FU 0 a (by unfold FU;omega) trivial)) λb _=>g3 b trivial)
    ·have e4:=mS e2;have e5:=I7 (gi (gi (gi l (i:Int)).bt (j:Int)).bA (q:Int));show Tt (B3 FU l (i:Int) (j:Int) (rj FU k) (kk+1) a (q:Int));rw[B3,cq (by omega)];refine cm (j8 e1 (br (gQ e1 ?_) λy _=>e3 _ trivial))
     with_reducible repeat' first|exact bg _|apply cm|(apply cj<;>intro _)|(apply br<;>try intro _ _)|apply lI|(apply jl;intro _ _)
     exact ih _ (by omega) (by omega)
    ·show Tt (B3 FU l (i:Int) (j:Int) (rj FU k) (kk+1) a (q:Int));rw[B3];exact cm (j9 h)
   ·show Tt (B8 FU l (i:Int) (rj FU k) (kk+1) a (j:Int));rw[B8];exact j9 h
  ·show Tt (B9 FU l (rj FU k) (kk+1) a (i:Int));rw[B9];exact j9 h
theorem ahw:∀(k:Nat)(c:bu),zC c<k→zC c≤1048576→Tt (zd FU k c):=by
 intro k
 induction k with
 |zero=>intro c h;omega
 |succ k ih=>
  intro c hk hb;have hz:=u4 c;have hl:=nC c.ae;rw[zd];refine br (cj (λ_=>bg _) λ_=>bg _) λz _=>br (nc (λkk (a:Int) i=>Bn FU c (zd FU k) kk a i) c.ae (λ_ _=>True) (λkk i a h1 h2 _ h3=>?_) (λkk i a h=>?_) FU 0 z (by unfold FU;omega) trivial) λ_ _=>bg _
  ·have h4:=mC h2;show Tt (Bn FU c (zd FU k) (kk+1) a (i:Int));rw[Bn,cq (by omega)];exact j8 h1 (gQ h1 (br (ih _ (by omega) (by omega)) λ_ _=>h3 _ trivial))
  ·show Tt (Bn FU c (zd FU k) (kk+1) a (i:Int));rw[Bn];exact j9 h
theorem ahx:∀(k:Nat)(c:bu),zC c<k→zC c≤1048576→Tt (ze FU k c):=by
 intro k
 induction k with
 |zero=>intro c h;omega
 |succ k ih=>
  intro c hk hb;have hz:=u4 c;have hD:=CE c.aS;have hl:=nC c.ae;rw[ze];refine cj (λ_=>br (Xz _ (by omega)) λ_ _=>bg _) λ_=>cj (λ_=>bg _) λ_=>br (nc (λkk (a:Int) i=>Bo FU c (ze FU k) kk a i) c.ae (λ_ _=>True) (λkk i a h1 h2 _ h3=>?_) (λkk i a h=>?_) FU 0 0 (by unfold FU;omega) trivial) λ_ _=>bg _
  ·have h4:=mC h2;show Tt (Bo FU c (ze FU k) (kk+1) a (i:Int));rw[Bo,cq (by omega)];exact j8 h1 (gQ h1 (br (ih _ (by omega) (by omega)) λ_ _=>br (cm (cj (λ_=>bg _) λ_=>bg _)) λ_ _=>h3 _ trivial))
  ·show Tt (Bo FU c (ze FU k) (kk+1) a (i:Int));rw[Bo];exact j9 h
theorem ahy(l:List bB)(i:Nat)(y:Int)(hb:rJ (gi l (i:Int)).cO≤1048576)(b:Bool)(d:Int):Tt (zh FU l (i:Int) y FU b 0 d):=by
 have hl:=nD (gi l (i:Int)).cO;refine nc (λkk (a:Bool×Int) j=>zh FU l (i:Int) y kk a.1 j a.2) (gi l (i:Int)).cO (λ_ _=>True) (λkk j a h1 h2 _ h3=>?_) (λkk j a h=>?_) FU 0 (b,d) (by unfold FU;omega) trivial
 ·have h4:=mD h2;have h5:=CE (gi (gi l (i:Int)).cO (j:Int));show Tt (zh FU l (i:Int) y (kk+1) a.1 (j:Int) a.2);rw[zh,cq (by omega)];exact j8 h1 (gQ h1 (br (Xz _ (by omega)) λ_ _=>br (cj (λ_=>bg _) λ_=>a3z _ (by omega)) λ_ _=>cm (h3 (_,_) trivial)))
 ·show Tt (zh FU l (i:Int) y (kk+1) a.1 (j:Int) a.2);rw[zh];exact j9 h
theorem ahz:∀(k:Nat)(l:List bB),dT l<k→dT l≤1048576→Tt (zk FU k l):=by
 intro k
 induction k with
 |zero=>intro l h;omega
 |succ k ih=>
  intro l hk hb;have hl:=nR l;rw[zk];refine br (nc (λkk (a:Int×Int×Bool) i=>Bq FU l (zk FU k) kk i a.1 a.2.1 a.2.2) l (λ_ _=>True) (λkk i a h1 h2 _ h3=>?_) (λkk i a h=>?_) FU 0 (0,0,false) (by unfold FU;omega) trivial) λ_ _=>bg _
  ·have h4:=mR h2;have h5:=LM (gi l (i:Int));show Tt (Bq FU l (zk FU k) (kk+1) (i:Int) a.1 a.2.1 a.2.2);rw[Bq,cq (by omega)];refine j8 h1 (br (gQ h1 (br (ih _ (by omega) (by omega)) λy _=>cm (br (ahu _ (by omega)) λn _=>br ?_ λz _=>cm (bg _)))) λz _=>h3 (z.1,z.2.1,z.2.2) trivial);refine cj (λ_=>?_) λ_=>cj (λ_=>?_) λ_=>cj (λ_=>?_) λ_=>cj (λ_=>cm (cm (cm (bg _)))) λ_=>cj (λ_=>cm (cm (cm (cm (cm (bg _)))))) λ_=>bg _
   ·exact br (ahv FU _ (by unfold FU;omega) (by omega)) λ_ _=>br (cj (λ_=>bg _) λ_=>ahe _ (by omega)) λ_ _=>cm (cm (cm (cm (ahy l i _ (by omega) _ _))))
   ·exact br (ahw FU _ (by unfold FU;omega) (by omega)) λ_ _=>cm (cm (br (cj (λ_=>bg _) λ_=>a3C _ (by omega)) λ_ _=>bg _))
   ·exact br (ahx FU _ (by unfold FU;omega) (by omega)) λ_ _=>cm (cm (br (cj (λ_=>bg _) λ_=>XB _ (by omega)) λ_ _=>bg _))
  ·show Tt (Bq FU l (zk FU k) (kk+1) (i:Int) a.1 a.2.1 a.2.2);rw[Bq];exact j9 h
theorem ahA(s:tt)(hb:dT s.bE≤1048576):Tt (Kh FU s):=by
 unfold Kh Oe;exact br (br (ahz FU _ (by unfold FU;omega) hb) λ_ _=>cm (cj (λ_=>bg _) λ_=>bg _)) λ_ _=>bg _
theorem a3J(s:gg):zO s=dT s.iF.bE+4:=by unfold zO;omega
theorem ahB(l:List gg)(hb:jT l≤1048576):Tt (Br FU l):=by
 have hl:=nO l;unfold Br;refine cj (λ_=>bg _) λ_=>br (t0 (Gl FU l) l (λkk i h1 h2 h3=>?_) (λkk i h=>?_) (by unfold FU;omega)) λ_ _=>jl λ_ _=>bg _
 ·have h4:=mO h2;rw[a3J]at h4;rw[Gl,cq (by omega)];exact j8 h1 (gQ h1 (cm (br (cj (λ_=>bg _) λ_=>ahA _ (by show dT (gi l (i:Int)).iF.bE≤_;omega)) λ_ _=>cj (λ_=>bg _) λ_=>h3)))
 ·rw[Gl];exact j9 h
theorem a3K:∀(k:Nat)(l:List bB),dT l<k→dT l≤1048576→Tt (A9 FU k l):=by
 intro k
 induction k with
 |zero=>intro l h;omega
 |succ k ih=>
  intro l hk hb;have hl:=nR l;rw[A9];refine br (nc (λkk (a:Int) i=>Cv FU l (A9 FU k) kk a i) l (λ_ _=>True) (λkk i a h1 h2 _ h3=>?_) (λkk i a h=>?_) FU 0 (ln l) (by unfold FU;omega) trivial) λ_ _=>bg _
  ·have h4:=mR h2;have h5:=LM (gi l (i:Int));show Tt (Cv FU l (A9 FU k) (kk+1) a (i:Int));rw[Cv,cq (i:=i) (by omega)];exact j8 h1 (gQ h1 (br (ih _ (by omega) (by omega)) λ_ _=>h3 _ trivial))
  ·show Tt (Cv FU l (A9 FU k) (kk+1) a (i:Int));rw[Cv];exact j9 h
theorem ahC:∀(k:Nat)(l:List bL)(q:Int),mA l<k→mA l≤1048576→Tt (rI FU k l q):=by
 intro k
 induction k with
 |zero=>intro l q h;omega
 |succ k ih=>
  intro l q hk hb;have hl:=nX l;rw[rI];refine br (nc (λkk (a:Int) i=>Co FU l q (rI FU k) kk a i) l (λ_ _=>True) (λkk i a h1 h2 _ h3=>?_) (λkk i a h=>?_) FU 0 0 (by unfold FU;omega) trivial) λ_ _=>bg _
  ·have h4:=mX h2;have h5:=LL (gi l (i:Int));have h6:=nP (gi l (i:Int)).bt;show Tt (Co FU l q (rI FU k) (kk+1) a (i:Int));rw[Co,cq (i:=i) (by omega)];refine cm (cj (λ_=>br (gQ h1 (cm (nc (λkk (a:Int) j=>Cn FU l q (i:Int) (rI FU k) kk a j) (gi l (i:Int)).bt (λ_ _=>True) (λkk j a g1 g2 _ g3=>?_) (λkk j a h=>?_) FU 0 _ (by unfold FU;omega) trivial))) λb _=>h3 b trivial) λ_=>bg _)
   ·have g4:=mP g2;have g5:=I6 (gi (gi l (i:Int)).bt (j:Int));have g6:=nS (gi (gi l (i:Int)).bt (j:Int)).bA;show Tt (Cn FU l q (i:Int) (rI FU k) (kk+1) a (j:Int));rw[Cn,cq (i:=j) (by omega)];refine cm (cj (λ_=>br (gQ g1 (cm (nc (λkk (a:Int) w=>Ck FU l q (i:Int) (j:Int) (rI FU k) kk a w) (gi (gi l (i:Int)).bt (j:Int)).bA (λ_ _=>True) (λkk w a e1 e2 _ e3=>?_) (λkk w a h=>?_) FU 0 _ (by unfold FU;omega) trivial))) λb _=>g3 b trivial) λ_=>bg _)
    ·have e4:=mS e2;have e5:=I7 (gi (gi (gi l (i:Int)).bt (j:Int)).bA (w:Int));show Tt (Ck FU l q (i:Int) (j:Int) (rI FU k) (kk+1) a (w:Int));rw[Ck,cq (i:=w) (by omega)];exact cm (cj (λ_=>gQ e1 (cm (cm (br (ih _ _ (by omega) (by omega)) λ_ _=>cm (e3 _ trivial))))) λ_=>bg _)
    ·show Tt (Ck FU l q (i:Int) (j:Int) (rI FU k) (kk+1) a (w:Int));rw[Ck,iQ h];exact⟨_,rfl⟩
   ·show Tt (Cn FU l q (i:Int) (rI FU k) (kk+1) a (j:Int));rw[Cn,iQ h];exact⟨_,rfl⟩
  ·show Tt (Co FU l q (rI FU k) (kk+1) a (i:Int));rw[Co,iQ h];exact⟨_,rfl⟩
theorem ahD:∀(k:Nat)(v:List ax)(q:Int),cD v<k→cD v≤1048576→Tt (A6 FU k v q):=by
 intro k
 induction k with
 |zero=>intro v q h;omega
 |succ k ih=>
  intro v q hk hb;have hl:=qy v;rw[A6];refine br (nc (λkk (a:Int) i=>Cp FU v q (A6 FU k) kk a i) v (λ_ _=>True) (λkk i a h1 h2 _ h3=>?_) (λkk i a h=>?_) FU 0 0 (by unfold FU;omega) trivial) λ_ _=>bg _
  ·have h4:=rK h2;have h5:=qx (gi v (i:Int));show Tt (Cp FU v q (A6 FU k) (kk+1) a (i:Int));rw[Cp,cq (i:=i) (by omega)];exact cm (cj (λ_=>gQ h1 (cm (br (ih _ _ (by omega) (by omega)) λ_ _=>h3 _ trivial))) λ_=>bg _)
  ·show Tt (Cp FU v q (A6 FU k) (kk+1) a (i:Int));rw[Cp,iQ h];exact⟨_,rfl⟩
theorem ahE:∀(k:Nat)(v:List ax),cD v<k→cD v≤1048576→Tt (A7 FU k v):=by
 intro k
 induction k with
 |zero=>intro v h;omega
 |succ k ih=>
  intro v hk hb;have hl:=qy v;rw[A7];refine br (nc (λkk (a:Int) i=>Cq FU v (A7 FU k) kk a i) v (λ_ _=>True) (λkk i a h1 h2 _ h3=>?_) (λkk i a h=>?_) FU 0 0 (by unfold FU;omega) trivial) λ_ _=>bg _
  ·have h4:=rK h2;have h5:=qx (gi v (i:Int));show Tt (Cq FU v (A7 FU k) (kk+1) a (i:Int));rw[Cq,cq (i:=i) (by omega)];exact j8 h1 (br (gQ h1 (cm (cj (λ_=>br (ih _ (by omega) (by omega)) λ_ _=>cm (bg _)) λ_=>bg _))) λ_ _=>h3 _ trivial)
  ·show Tt (Cq FU v (A7 FU k) (kk+1) a (i:Int));rw[Cq];exact j9 h
theorem a3L(l:List cR)(hb:rJ l≤1048576):Tt (HV FU l):=by
 have hl:=nD l;unfold HV;refine cj (λ_=>bg _) λ_=>br (nc (λkk (a:Int) i=>Cr FU l kk a i) l (λ_ _=>True) (λkk i a h1 h2 _ h3=>?_) (λkk i a h=>?_) FU 0 0 (by unfold FU;omega) trivial) λ_ _=>jl λ_ _=>bg _
 ·have h4:=mD h2;have h5:=CE (gi l (i:Int));show Tt (Cr FU l (kk+1) a (i:Int));rw[Cr,cq (i:=i) (by omega)];exact j8 h1 (gQ h1 (br (ahD FU _ _ (by unfold FU;omega) (by omega)) λ_ _=>cm (br (cj (λ_=>bg _) λ_=>ahE FU _ (by unfold FU;omega) (by omega)) λ_ _=>cm (cj (λ_=>bg _) λ_=>h3 _ trivial))))
 ·show Tt (Cr FU l (kk+1) a (i:Int));rw[Cr];exact j9 h
theorem ahF:∀(k:Nat)(c:bu)(q:Int),zC c<k→zC c≤1048576→Tt (A8 FU k c q):=by
 intro k
 induction k with
 |zero=>intro c q h;omega
 |succ k ih=>
  intro c q hk hb;have hz:=u4 c;have hl:=nC c.ae;rw[A8];refine br (nc (λkk (a:Int) i=>Ct FU c q (A8 FU k) kk a i) c.ae (λ_ _=>True) (λkk i a h1 h2 _ h3=>?_) (λkk i a h=>?_) FU 0 1 (by unfold FU;omega) trivial) λ_ _=>bg _
  ·have h4:=mC h2;show Tt (Ct FU c q (A8 FU k) (kk+1) a (i:Int));rw[Ct,cq (i:=i) (by omega)];exact cm (cj (λ_=>gQ h1 (br (ih _ _ (by omega) (by omega)) λ_ _=>h3 _ trivial)) λ_=>bg _)
  ·show Tt (Ct FU c q (A8 FU k) (kk+1) a (i:Int));rw[Ct,iQ h];exact⟨_,rfl⟩
theorem ahG:∀(k:Nat)(c:bu),zC c<k→zC c≤1048576→Tt (EP FU k c):=by
 intro k
 induction k with
 |zero=>intro c h;omega
 |succ k ih=>
  intro c hk hb;have hz:=u4 c;have hl:=nC c.ae;rw[EP];refine br (a3L _ (by rw[rJ,rJ];omega)) λ_ _=>cm (cj (λ_=>bg _) λ_=>br (t0 (HW FU c (EP FU k)) c.ae (λkk i h1 h2 h3=>?_) (λkk i h=>?_) (by unfold FU;omega)) λ_ _=>jl λ_ _=>bg _)
  ·have h4:=mC h2;rw[HW,cq (i:=i) (by omega)];exact j8 h1 (gQ h1 (br (ih _ (by omega) (by omega)) λ_ _=>cj (λ_=>bg _) λ_=>h3))
  ·rw[HW];exact j9 h
theorem ahH:∀(k:Nat)(l:List bB)(q:Int),dT l<k→dT l≤1048576→Tt (EQ FU k l q):=by
 intro k
 induction k with
 |zero=>intro l q h;omega
 |succ k ih=>
  intro l q hk hb;have hl:=nR l;rw[EQ];refine cm (cj (λ_=>bg _) λ_=>br (t0 (HY FU l q (EQ FU k)) l (λkk i h1 h2 h3=>?_) (λkk i h=>?_) (by unfold FU;omega)) λ_ _=>jl λ_ _=>bg _)
  ·have h4:=mR h2;have h5:=LM (gi l (i:Int));have l2:=nN (gi l (i:Int)).bH;rw[HY,cq (i:=i) (by omega)];refine j8 h1 (br (gQ h1 (br ?_ λ_ _=>br (cj (λ_=>bg _) λ_=>a3L _ (by omega)) λ_ _=>br (cj (λ_=>bg _) λ_=>?_) λ_ _=>cm (br (cj (λ_=>bg _) λ_=>ih _ _ (by omega) (by omega)) λ_ _=>cj (λ_=>bg _) λ_=>t0 (HX FU l (i:Int)) (gi l (i:Int)).bH (λkk j e1 e2 e3=>?_) (λkk j h=>?_) (by unfold FU;omega)))) λ_ _=>jl λ_ _=>h3)
   ·unfold PY;exact br (ahC FU _ _ (by unfold FU;omega) (by omega)) λ_ _=>bg _
   ·unfold PZ;exact br (ahF FU _ _ (by unfold FU;omega) (by omega)) λ_ _=>br (cj (λ_=>bg _) λ_=>ahG FU _ (by unfold FU;omega) (by omega)) λ_ _=>bg _
   ·rw[HX,cq (i:=j) (by omega)];exact j8 e1 (gQ e1 (cm (cj (λ_=>bg _) λ_=>e3)))
   ·rw[HX];exact j9 h
  ·rw[HY];exact j9 h
theorem ahI(l:List gg)(hb:jT l≤1048576):Tt (HZ FU l):=by
 have hl:=nO l;unfold HZ;refine br (nc (λkk (a:Int) i=>Cw FU l kk a i) l (λ_ _=>True) (λkk i a h1 h2 _ h3=>?_) (λkk i a h=>?_) FU 0 0 (by unfold FU;omega) trivial) λ_ _=>jl λ_ _=>cm (bg _)
 ·have h4:=mO h2;rw[a3J]at h4;show Tt (Cw FU l (kk+1) a (i:Int));rw[Cw,cq (i:=i) (by omega)];unfold Q0;exact cm (cj (λ_=>gQ h1 (br (br (ahH FU _ _ (by unfold FU;omega) (by omega)) λ_ _=>br (cj (λ_=>bg _) λ_=>a3K FU _ (by unfold FU;omega) (by omega)) λ_ _=>bg _) λ_ _=>cj (λ_=>bg _) λ_=>br (a3K FU _ (by unfold FU;omega) (by omega)) λ_ _=>h3 _ trivial)) λ_=>bg _)
 ·show Tt (Cw FU l (kk+1) a (i:Int));rw[Cw,iQ h];exact⟨_,rfl⟩
theorem ahJ(l:List gg)(e:kM)(og:Int)(hb:jT l≤1048576)(ha:HU FU=some true):ER FU l e og=some true:=by
 obtain⟨g,hg⟩:=ahI l hb;obtain⟨c,hc⟩:=ahB l hb;refine agS FU (by decide) e (λhI r hr=>ahs r _ hr ?_) l og hb (by decide) ha hg hc;unfold xJ at hI;rw[lt_eq]at hI;show e.dd≤_;by_cases h:e.dd≤1000000000
 ·exact h
 ·rw[dt h]at hI;revert hI;cases decide (0≤e.dd)<;>intro hI<;>cases hI
def M0(x:gg):Nat:=1+(iC zR x.iF.bE+1)+1
theorem a3M:∀l:List gg,(l.map M0).sum=jT l
 |[]=>rfl
 |v::r=>by
  have h:=a3M r;have e:M0 v=zO v:=by unfold M0 zO;rw[show iC zR v.iF.bE=dT v.iF.bE+1 from WS _]
  rw[jT,List.map_cons,List.sum_cons,h,e]
theorem ahK:HU FU=some true:=by
 show(_:Option Bool)=some true;kernel_rfl
theorem ahL(l:List gg)(e:kM)(og:Int){p q s:Prop}(_:p)(_:q)(_:s)(hb:iC M0 l+(1+1)+1+0≤1048576):ER FU l e og=some true:=by
 have h:iC M0 l=jT l+1:=congrArg (· +1) (a3M l);exact ahJ l e og (by omega) ahK
end Go.Proofs.YtlgligdlpbggaaaGreatDoor
