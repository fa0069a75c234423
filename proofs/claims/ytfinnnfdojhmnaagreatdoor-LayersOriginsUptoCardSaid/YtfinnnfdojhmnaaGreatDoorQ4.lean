/-
 Sorting, the plain part: exchanges, permutations within a part of a list, order. No program in sight.
-/
import Derived.Test.YtfinnnfdojhmnaaGreatDoorQ2
import Derived.Test.YtfinnnfdojhmnaaGreatDoorX
import Derived.Test.YtfinnnfdojhmnaaGreatDoorWFd
import Derived.KernelRfl
import Derived.Test.YtfinnnfdojhmnaaGreatDoorQ3
import Derived.Test.YtfinnnfdojhmnaaGreatDoorRU
set_option linter.unusedVariables false
set_option maxRecDepth 100000
namespace Go.Proofs.YtfinnnfdojhmnaaGreatDoor
open Go Go.V Go.RowKit
abbrev LP:=List (List a7)
def gx(l:LP)(i:Nat):List a7:=l.getD i default
def sw(l:LP)(i j:Nat):LP:=(l.set i (gx l j)).set j (gx l i)
theorem w9{l:LP}{i:Nat}(h:i<l.length):gx l i=l[i]:=by simp[gx,List.getD_eq_getElem?_getD,h]
theorem lR(l:LP)(i:Nat):gi l (i:Int)=gx l i:=rfl
theorem sc(l:LP)(i:Nat)(x:List a7):bN l (i:Int) x=l.set i x:=rfl
theorem gj{l:LP}{i:Nat}(h:i<l.length):gx l i∈l:=by rw[w9 h];exact List.getElem_mem h
theorem ke(l:LP)(i j:Nat):(sw l i j).length=l.length:=by simp[sw]
theorem agz{l:LP}{i j:Nat}(hi:i<l.length)(hj:j<l.length):(sw l i j).Perm l:=by
 rw[sw,w9 hi,w9 hj];exact List.set_set_perm hi hj
theorem tq{l:LP}{i j:Nat}(hi:i<l.length)(hj:j<l.length)(k:Nat):gx (sw l i j) k=if k=j then gx l i else if k=i then gx l j else gx l k:=by
 simp only[gx,sw,List.getD_eq_getElem?_getD,List.getElem?_set,List.length_set];by_cases h1:j=k
 ·subst h1;simp[hj]
 ·by_cases h2:i=k
  ·subst h2;simp[hi,h1,Ne.symm h1]
  ·simp[h1,h2,Ne.symm h1,Ne.symm h2]
/-- A permutation within [a, b). -/
def cE(a b:Nat)(l l':LP):Prop:=l'.length=l.length∧l'.Perm l∧∀k,k<a∨b≤k→gx l' k=gx l k
theorem cE.rfl'{a b:Nat}(l:LP):cE a b l l:=⟨rfl,List.Perm.refl _,λ_ _=>rfl⟩
theorem cE.tr{a b:Nat}{l1 l2 l3:LP}(h:cE a b l1 l2)(h':cE a b l2 l3):cE a b l1 l3:=⟨h'.1.trans h.1,h'.2.1.trans h.2.1,λk hk=>(h'.2.2 k hk).trans (h.2.2 k hk)⟩
theorem cE.up{a b a' b':Nat}{l l':LP}(h:cE a b l l')(ha:a'≤a)(hb:b≤b'):cE a' b' l l':=⟨h.1,h.2.1,λk hk=>h.2.2 k (by omega)⟩
theorem cE.sw{a b i j:Nat}{l:LP}(hi:i<l.length)(hj:j<l.length)(h1:a≤i)(h2:i<b)(h3:a≤j)(h4:j<b):cE a b l (Go.Proofs.YtfinnnfdojhmnaaGreatDoor.sw l i j):=
 ⟨ke ..,agz hi hj,λk hk=>by rw[tq hi hj,if_neg (by omega),if_neg (by omega)]⟩
theorem a3B{l l':LP}(h:l'.length=l.length)(hg:∀k,k<l.length→gx l' k=gx l k):l'=l:=by
 apply List.ext_getElem h;intro i h1 h2;have:=hg i h2;rwa [w9 h1,w9 h2]at this
theorem QE(l:LP)(a k:Nat):gx (l.drop a) k=gx l (a+k):=by simp[gx,List.getD_eq_getElem?_getD,List.getElem?_drop]
theorem QF(l:LP)(b k:Nat)(h:k<b):gx (l.take b) k=gx l k:=by simp[gx,List.getD_eq_getElem?_getD,h]
theorem cE.seg{a b:Nat}{l l':LP}(h:cE a b l l')(o0:a≤b)(hb:b≤l.length):((l'.take b).drop a).Perm ((l.take b).drop a):=by
 have e1:∀x:LP,x=x.take a++((x.take b).drop a++x.drop b):=λx=>by
  have h1:x.take b=x.take a++(x.take b).drop a:=by
   have:=List.take_append_drop a (x.take b);rw[List.take_take,Nat.min_eq_left o0]at this;exact this.symm
  rw[←xQ,←h1,List.take_append_drop]
 have h1:l'.take a=l.take a:=a3B (by simp[h.1]) (λk hk=>by
  have:k<a:=by simp at hk;omega
  rw[QF _ _ _ this,QF _ _ _ this];exact h.2.2 k (.inl this))
 have h2:l'.drop b=l.drop b:=a3B (by simp[h.1]) (λk hk=>by rw[QE,QE];exact h.2.2 _ (.inr (by omega)));have hp:=h.2.1;rw[e1 l',e1 l,h1,h2]at hp;have hp:=(List.perm_append_left_iff _).1 hp;exact(List.perm_append_right_iff _).1 hp
/-- What stands within the part stood within the part. -/
theorem cE.was{a b:Nat}{l l':LP}(h:cE a b l l')(hb:b≤l.length){k:Nat}(h1:a≤k)(h2:k<b):∃q,a≤q∧q<b∧gx l' k=gx l q:=by
 have hs:=h.seg (by omega) hb;have hl:((l'.take b).drop a).length=b-a:=by simp[h.1];omega
 have hm:gx l' k∈(l'.take b).drop a:=by
  have:=gj (l:=(l'.take b).drop a) (i:=k-a) (by omega);rw[QE,QF _ _ _ (by omega),show a+(k-a)=k by omega]at this;exact this
 have IF:=hs.mem_iff.1 hm;obtain⟨q,hq,e⟩:=List.mem_iff_getElem.1 IF;have Z0:q<b-a:=by simp at hq;omega
 refine⟨a+q,by omega,by omega,?_⟩;rw[←e,←w9 hq,QE,QF _ _ _ (by omega)]
theorem cE.all{a b:Nat}{l l':LP}(h:cE a b l l'){P:List a7→Prop}(hA:∀x∈l,P x):∀x∈l',P x:=λx hx=>hA x ((h.2.1.mem_iff).1 hx)
/-- A strict weak order on what 'P' tells. -/
structure Is(P:List a7→Prop)(lt:List a7→List a7→Bool):Prop where
 ir:∀x,P x→lt x x=false
 Fj:∀x y,P x→P y→lt x y=true→lt y x=false
 nt:∀x y z,P x→P y→P z→lt x y=false→lt y z=false→lt x z=false
/-- In order within [a, b). -/
def kN(lt:List a7→List a7→Bool)(a b:Nat)(l:LP):Prop:=∀i j,a≤i→i<j→j<b→lt (gx l j) (gx l i)=false
theorem kN.cut{lt:List a7→List a7→Bool}{a b a' b':Nat}{l:LP}(h:kN lt a b l)(ha:a≤a')(hb:b'≤b):kN lt a' b' l:=λi j h1 h2 h3=>h i j (by omega) h2 (by omega)
theorem kN.out{lt:List a7→List a7→Bool}{a b c d:Nat}{l l':LP}(h:kN lt a b l)(hp:cE c d l l')(hd:d≤a∨b≤c):kN lt a b l':=λi j h1 h2 h3=>by
 rw[hp.2.2 i (by omega),hp.2.2 j (by omega)];exact h i j h1 h2 h3
theorem nu{i:Nat}(h:0<i)(h':i<4611686018427387904):J ((i:Int)-1)=((i-1:Nat):Int):=by rw[nB (by omega) (by omega)];omega
theorem wa{i j:Nat}(h:j≤i)(h':i<4611686018427387904):J ((i:Int)-(j:Int))=((i-j:Nat):Int):=by rw[nB (by omega) (by omega)];omega
theorem AM{i j:Nat}(h:i+j<4611686018427387904):J ((i:Int)+(j:Int))=((i+j:Nat):Int):=by rw[nB (by omega) (by omega)];omega
theorem iV{β:Type}{c:Bool}{p:Prop}[Decidable p]{k:Option β}(h:c=true→p):aH (c=true→p) k=k:=bP h
abbrev Lt(cf:List a7→List a7→Int)(x y:List a7):Bool:=decide (cf x y<0)
abbrev Cm(m:Nat)(sn:Mi)(ps:LP)(st:List bB)(P:List a7→Prop)(cf:List a7→List a7→Int):Prop:=∀a b,P a→P b→ot m a b sn ps st=some (cf a b)
abbrev dA:Nat:=4611686018427387904
section
variable (m:Nat) {sn:Mi} {ps:LP} {st:List bB} {P:List a7→Prop} {cf:List a7→List a7→Int} (hc:Cm m sn ps st P cf) (ho:Is P (Lt cf))
def Ins(lt:List a7→List a7→Bool)(a j i:Nat)(l:LP):Prop:=∀p q,a≤p→p<q→q≤i→q≠j→lt (gx l q) (gx l p)=false
include hc ho
theorem agA(a i:Nat):∀(j kk:Nat)(l:LP),j-a<kk→a≤j→j≤i→i<l.length→l.length<dA→(∀x∈l,P x)→
   ∃l',EU m (a:Int) sn ps st kk l (j:Int)=some l'∧cE a (i+1) l l'∧(Ins (Lt cf) a j i l→kN (Lt cf) a (i+1) l'):=by
 intro j
 induction j with
 |zero=>
  intro kk l hk ha hj hi hl hA;obtain⟨kk,rfl⟩:∃q,kk=q+1:=⟨kk-1,by omega⟩;have hd:decide ((a:Int)<((0:Nat):Int))=false:=du (by omega);rw[EU,iV (λh=>by rw[hd]at h;cases h),iV (λh=>by rw[hd]at h;cases h)];simp only[hd,aX,aW,lt_eq];exact⟨l,rfl,cE.rfl' _,λh p q h1 h2 h3=>h p q h1 h2 (by omega) (by omega)⟩
 |succ j ih=>
  intro kk l hk ha hj hi hl hA;obtain⟨kk,rfl⟩:∃q,kk=q+1:=⟨kk-1,by omega⟩;rw[EU];by_cases hd:a<j+1
  ·have fL:decide ((a:Int)<((j+1:Nat):Int))=true:=eR (by omega);have hw:J (((j+1:Nat):Int)-1)=(j:Int):=by rw[nu (by omega) (by unfold dA at hl;omega)];rfl
   have hx:=gj (l:=l) (i:=j+1) (by omega);have hy:=gj (l:=l) (i:=j) (by omega);rw[iV (λ_=>by unfold ln;omega),iV (λ_=>by rw[hw];unfold ln;omega),fL,bf,hw,lR,lR,hc _ _ (hA _ hx) (hA _ hy),aW,lt_eq,bf];cases dJ:decide (cf (gx l (j+1)) (gx l j)<0)
   ·rw[aX];refine⟨l,rfl,cE.rfl' _,λh p q h1 h2 h3=>?_⟩;by_cases hq:q=j+1
    ·subst hq;by_cases hp:p=j
     ·subst hp;exact dJ
     ·exact ho.nt _ _ _ (hA _ hx) (hA _ hy) (hA _ (gj (by omega))) dJ (h p j h1 (by omega) (by omega) (by omega))
    ·exact h p q h1 h2 (by omega) hq
   ·have hs:(bN (bN l ((j+1:Nat):Int) (gx l j)) (j:Int) (gx l (j+1)))=sw l (j+1) j:=rfl;rw[bf,bP (by unfold ln;omega),bP (by unfold ln;omega),lt_eq,bP (by unfold ln;rw[sc,List.length_set];omega),lt_eq,hs];have hp:=cE.sw (a:=a) (b:=i+1) (i:=j+1) (j:=j) (l:=l) (by omega) (by omega) (by omega) (by omega) (by omega) (by omega);obtain⟨l',e,h1,h2⟩:=ih kk (sw l (j+1) j) (by omega) (by omega) (by omega) (by rw[ke];omega) (by rw[ke];exact hl) (hp.all hA);refine⟨l',e,hp.tr h1,λh=>h2 ?_⟩;intro p q g1 g2 g3 g4;rw[tq (by omega) (by omega),tq (by omega) (by omega),if_neg g4];by_cases q1:q=j+1
    ·subst q1;rw[if_pos rfl];by_cases p1:p=j
     ·subst p1;rw[if_pos rfl];exact ho.Fj _ _ (hA _ hx) (hA _ hy) dJ
     ·rw[if_neg p1,if_neg (by omega)];exact h p j g1 (by omega) (by omega) (by omega)
    ·rw[if_neg q1];by_cases p1:p=j
     ·rw[if_pos p1];exact h (j+1) q (by omega) (by omega) g3 q1
     ·rw[if_neg p1];by_cases p2:p=j+1
      ·rw[if_pos p2];exact h j q (by omega) (by omega) g3 q1
      ·rw[if_neg p2];exact h p q g1 g2 g3 q1
  ·have fL:decide ((a:Int)<((j+1:Nat):Int))=false:=du (by omega);rw[iV (λh=>by rw[fL]at h;cases h),iV (λh=>by rw[fL]at h;cases h)];simp only[fL,aX,aW,lt_eq];exact⟨l,rfl,cE.rfl' _,λh p q h1 h2 h3=>h p q h1 h2 (by omega) (by omega)⟩
theorem agB(a b:Nat):∀(kk i:Nat)(l:LP),b-i<kk→a<i→b≤l.length→l.length<dA→l.length<m→(∀x∈l,P x)→kN (Lt cf) a i l→
   ∃l',HF m (a:Int) (b:Int) sn ps st kk l (i:Int)=some l'∧cE a b l l'∧kN (Lt cf) a b l':=by
 intro kk
 induction kk with
 |zero=>intro i l h;omega
 |succ kk ih=>
  intro i l hk ha hb hl hm hA hs;rw[HF];by_cases hi:i<b
  ·have hd:decide ((i:Int)<(b:Int))=true:=eR (by omega);obtain⟨l1,e,h1,h2⟩:=agA m hc ho a i i m l (by omega) (by omega) (cZ _) (by omega) hl hA;rw[hd,bf,e,aW,bX (by unfold dA at hl;omega)];have hs':=h2 (λp q g1 g2 g3 g4=>hs p q g1 g2 (by omega));obtain⟨l',e',h3,h4⟩:=ih (i+1) l1 (by omega) (by omega) (by rw[h1.1];exact hb) (by rw[h1.1];exact hl) (by rw[h1.1];exact hm) (h1.all hA) hs';exact⟨l',e',(h1.up (cZ _) (by omega)).tr h3,h4⟩
  ·have hd:decide ((i:Int)<(b:Int))=false:=du (by omega);rw[hd,aX];exact⟨l,rfl,cE.rfl' _,hs.cut (cZ _) (by omega)⟩
theorem agC(a b:Nat)(l:LP)(o0:a≤b)(hb:b≤l.length)(hl:l.length<dA)(hm:l.length+1<m)(hA:∀x∈l,P x):
   ∃l',HG m l (a:Int) (b:Int) sn ps st=some l'∧cE a b l l'∧kN (Lt cf) a b l':=by
 rw[HG,bX (by unfold dA at hl;omega)];exact agB m hc ho a b m (a+1) l (by omega) (by omega) hb hl (by omega) hA (λi j h1 h2 h3=>by omega)
end
theorem agD(m a b:Nat):∀(kk i j:Nat)(l:LP),j+1-i<kk→a≤i→j<b→b≤l.length→l.length<dA→
   ∃l',HN m kk l (i:Int) (j:Int)=some l'∧cE a b l l':=by
 intro kk
 induction kk with
 |zero=>intro i j l h;omega
 |succ kk ih=>
  intro i j l hk ha hj hb hl;rw[HN];by_cases hi:i<j
  ·have hd:decide ((i:Int)<(j:Int))=true:=eR (by omega);have hs:(bN (bN l (i:Int) (gi l (j:Int))) (j:Int) (gi l (i:Int)))=sw l i j:=rfl;rw[hd,bf,bP (by unfold ln;omega),bP (by unfold ln;omega),lt_eq,bP (by unfold ln;rw[sc,List.length_set];omega),lt_eq,hs,bX (by unfold dA at hl;omega),nu (by omega) (by unfold dA at hl;omega)];have hp:=cE.sw (a:=a) (b:=b) (i:=i) (j:=j) (l:=l) (by omega) (by omega) (by omega) (by omega) (by omega) (by omega);obtain⟨l',e,h1⟩:=ih (i+1) (j-1) (sw l i j) (by omega) (by omega) (by omega) (by rw[ke];exact hb) (by rw[ke];exact hl);exact⟨l',e,hp.tr h1⟩
  ·have hd:decide ((i:Int)<(j:Int))=false:=du (by omega);rw[hd,aX];exact⟨l,rfl,cE.rfl' _⟩
theorem agE(m a b:Nat)(sn:Mi)(ps:LP)(st:List bB)(l:LP)(o0:a<b)(hb:b≤l.length)(hl:l.length<dA)(hm:l.length+1<m):
   ∃l',EZ m l (a:Int) (b:Int) sn ps st=some l'∧cE a b l l':=by
 rw[EZ,nu (by omega) (by unfold dA at hl;omega)];exact agD m a b m a (b-1) l (by omega) (cZ _) (by omega) hb hl
section
variable (m:Nat) {sn:Mi} {ps:LP} {st:List bB} {P:List a7→Prop} {cf:List a7→List a7→Int} (hc:Cm m sn ps st P cf)
include hc
theorem XH{l:LP}(hA:∀x∈l,P x){x y:Nat}(s:Int)(hx:x<l.length)(hy:y<l.length):
   ∃(p q:Nat)(s':Int),Cq m l (x:Int) (y:Int) s sn ps st=some ((p:Int),(q:Int),s',l)∧(p=x∧q=y∨p=y∧q=x):=by
 rw[Cq,fy hy,fy hx,lR,lR,hc _ _ (hA _ (gj hy)) (hA _ (gj hx)),aW];cases decide (cf (gx l y) (gx l x)<0)
 ·exact⟨x,y,s,rfl,.inl ⟨rfl,rfl⟩⟩
 ·exact⟨y,x,_,rfl,.inr ⟨rfl,rfl⟩⟩
theorem XI{l:LP}(hA:∀x∈l,P x){x y z:Nat}(s:Int)(hx:x<l.length)(hy:y<l.length)(hz:z<l.length):
   ∃(r:Nat)(s':Int),Ak m l (x:Int) (y:Int) (z:Int) s sn ps st=some ((r:Int),s',l)∧(r=x∨r=y∨r=z):=by
 obtain⟨p1,q1,s1,e1,h1⟩:=XH m hc hA s hx hy;obtain⟨p2,q2,s2,e2,h2⟩:=XH m hc hA (x:=q1) (y:=z) s1 (by omega) hz;obtain⟨p3,q3,s3,e3,h3⟩:=XH m hc hA (x:=p1) (y:=p2) s2 (by omega) (by omega);refine⟨q3,s3,?_,by omega⟩;rw[Ak,e1,aW,e2,aW,e3,aW]
theorem XJ{l:LP}(hA:∀x∈l,P x){x:Nat}(s:Int)(hx:0<x)(hy:x+1<l.length)(hl:l.length<dA):
   ∃(r:Nat)(s':Int),Cr m l (x:Int) s sn ps st=some ((r:Int),s',l)∧x-1≤r∧r≤x+1:=by
 obtain⟨r,s',e,h⟩:=XI m hc hA (x:=x-1) (y:=x) (z:=x+1) s (by omega) (by omega) hy;refine⟨r,s',?_,by omega⟩;rw[Cr,nu hx (by unfold dA at hl;omega),bX (by unfold dA at hl;omega),e,aW]
omit hc in
theorem M7{a b:Nat}(h:a≤b)(hb:b<dA)(c:Nat)(h3:c≤3):J (J (Int.tdiv (J ((b:Int)-(a:Int))) 4)*(c:Int))=(((b-a)/4*c:Nat):Int):=by
 have hq:Int.tdiv (((b-a:Nat)):Int) 4=(((b-a)/4:Nat):Int):=rfl;have:(b-a)/4*c≤b-a:=by
  have:=Nat.mul_le_mul_left ((b-a)/4) h3;omega
 rw[wa h (by unfold dA at hb;omega),hq,nB (x:=(((b-a)/4:Nat):Int)) (by omega) (by unfold dA at hb;omega),nB (by
   have:(0:Int)≤(((b-a)/4:Nat):Int)*(c:Int):=Int.mul_nonneg (by omega) (by omega);omega) (by
   have e:(((b-a)/4:Nat):Int)*(c:Int)=(((b-a)/4*c:Nat):Int):=(Int.natCast_mul ..).symm;rw[e];unfold dA at hb;omega)]
 exact(Int.natCast_mul ..).symm
theorem agF{l:LP}(hA:∀x∈l,P x){a b:Nat}(h:a+13≤b)(hb:b≤l.length)(hl:l.length<dA):
   ∃(r:Nat)(s:Int),HM m l (a:Int) (b:Int) sn ps st=some ((r:Int),s,l)∧a≤r∧r<b:=by
 have hB:b<dA:=by omega
 have q1:=M7 (a:=a) (b:=b) (by omega) hB 1 (by omega);have q2:=M7 (a:=a) (b:=b) (by omega) hB 2 (by omega);have q3:=M7 (a:=a) (b:=b) (by omega) hB 3 (by omega);have ad:∀c,c≤3→J ((a:Int)+(((b-a)/4*c:Nat):Int))=((a+(b-a)/4*c:Nat):Int):=λc hc=>AM (by
  have:=Nat.mul_le_mul_left ((b-a)/4) hc;unfold dA at hB;omega)
 rw[HM];rw[show((1:Int))=((1:Nat):Int)from rfl,show((2:Int))=((2:Nat):Int)from rfl,show((3:Int))=((3:Nat):Int)from rfl,q1,q2,q3];rw[lt_eq,lt_eq,lt_eq,ad 1 (by omega),ad 2 (by omega),ad 3 (by omega),wa (by omega) (by unfold dA at hB;omega),show decide ((8:Int)≤((b-a:Nat):Int))=true from eR (by omega),bf];have fin:∀(r:Nat)(s:Int),a≤r→r<b→∃(r':Nat)(s':Int),(Option.bind (some ((r:Int),s,l)) λ(fH:Int×Int×LP)=>cond (fH.2.1==0) (some (fH.1,((1:Nat):Int),fH.2.2)) (cond (fH.2.1==12) (some (fH.1,((2:Nat):Int),fH.2.2)) (some (fH.1,0,fH.2.2))))=some ((r':Int),s',l)∧a≤r'∧r'<b:=by
  intro r s h1 h2;rw[aW];show∃(r':Nat)(s':Int),cond (s==0) (some ((r:Int),((1:Nat):Int),l)) (cond (s==12) (some ((r:Int),((2:Nat):Int),l)) (some ((r:Int),0,l)))=_∧_;cases s==0
  ·cases s==12
   ·exact⟨r,_,rfl,h1,h2⟩
   ·exact⟨r,_,rfl,h1,h2⟩
  ·exact⟨r,_,rfl,h1,h2⟩
 cases decide ((50:Int)≤((b-a:Nat):Int))
 ·rw[aX,aW];obtain⟨r,s,e,h1⟩:=XI m hc hA (x:=a+(b-a)/4*1) (y:=a+(b-a)/4*2) (z:=a+(b-a)/4*3) 0 (by omega) (by omega) (by omega);show∃(r':Nat)(s':Int),Option.bind (Option.bind (Ak m l _ _ _ 0 sn ps st) _) _=_∧_;rw[e,aW];exact fin r s (by omega) (by omega)
 ·rw[bf];obtain⟨r1,s1,e1,h1⟩:=XJ m hc hA (x:=a+(b-a)/4*1) 0 (by omega) (by omega) hl;obtain⟨r2,s2,e2,h2⟩:=XJ m hc hA (x:=a+(b-a)/4*2) s1 (by omega) (by omega) hl;obtain⟨r3,s3,e3,h3⟩:=XJ m hc hA (x:=a+(b-a)/4*3) s2 (by omega) (by omega) hl;rw[e1,aW,e2,aW,e3,aW,aW];obtain⟨r,s,e,h4⟩:=XI m hc hA (x:=r1) (y:=r2) (z:=r3) s3 (by omega) (by omega) (by omega);show∃(r':Nat)(s':Int),Option.bind (Option.bind (Ak m l _ _ _ s3 sn ps st) _) _=_∧_;rw[e,aW];exact fin r s (by omega) (by omega)
end
def TB:a7:=[0,1,2,2,3,3,3,3,4,4,4,4,4,4,4,4]++List.replicate 16 5++List.replicate 32 6++List.replicate 64 7++List.replicate 128 8
def tb(n:Nat):Nat:=(bR TB (n:Int)).toNat
theorem agG:((List.range 256).all λn=>decide (bR TB (n:Int)=(tb n:Int))&&decide (tb n≤8)&&(n==0||decide (2^(tb n)≤2*n)))=true:=by kernel_rfl
theorem Fk{n:Nat}(h:n<256):bR TB (n:Int)=(tb n:Int)∧tb n≤8∧(0<n→2^(tb n)≤2*n):=by
 have:=List.all_eq_true.1 agG n (List.mem_range.2 h);simp only[Bool.and_eq_true,decide_eq_true_eq,Bool.or_eq_true,beq_iff_eq]at this;exact⟨this.1.1,this.1.2,λh=>this.2.resolve_left (by omega)⟩
def M8(z:Int×Int):Option Int:=aH (0≤cW z.1∧cW z.1<ln TB)<|lt (bR TB (cW z.1)) λvl=>some (J (z.2+J vl))
theorem agH(x:Int):Ps x=Option.bind (cond (decide (4294967296≤x)) (some (Int.fdiv x (2^32),32)) (some (x,0))) λ(z3:Int×Int)=>
  Option.bind (cond (decide (65536≤z3.1)) (some (Int.fdiv z3.1 (2^16),J (z3.2+16))) (some (z3.1,z3.2))) λ(cY:Int×Int)=>
  Option.bind (cond (decide (256≤cY.1)) (some (Int.fdiv cY.1 (2^8),J (cY.2+8))) (some (cY.1,cY.2))) M8:=by kernel_rfl
theorem XK{z s:Nat}(h:z<256)(hs:s≤16):M8 ((z:Int),(s:Int))=some ((s+tb z:Nat):Int):=by
 obtain⟨h1,h2,_⟩:=Fk h;have hl:ln TB=((256:Nat):Int):=rfl;rw[M8,hl,a6t (x:=(z:Int)) (by omega) (by omega),bP (by omega),lt_eq,h1,nB (x:=(tb z:Int)) (by omega) (by omega),nB (by omega) (by omega)];rfl
theorem fd8(n:Nat):Int.fdiv (n:Int) (2^8)=((n/256:Nat):Int):=by
 rw[show((2:Int)^8)=256 from by decide,Int.fdiv_eq_ediv_of_nonneg _ (by omega)];omega
theorem agI(n:Nat):Int.fdiv (n:Int) (2^16)=((n/65536:Nat):Int):=by
 rw[show((2:Int)^16)=65536 from by decide,Int.fdiv_eq_ediv_of_nonneg _ (by omega)];omega
theorem a3C{n:Nat}(h:n<16777216):∃y:Nat,HD (n:Int)=some (y:Int)∧(0<n→2^y≤2*n)∧y≤24:=by
 rw[HD,agH,show decide ((4294967296:Int)≤(n:Int))=false from du (by omega),aX,aW];by_cases h1:n<65536
 ·rw[show decide ((65536:Int)≤((n:Int),(0:Int)).1)=false from du (by show¬(65536:Int)≤(n:Int);omega),aX,aW];by_cases h2:n<256
  ·rw[show decide ((256:Int)≤(((n:Int),(0:Int)).1,((n:Int),(0:Int)).2).1)=false from du (by show¬(256:Int)≤(n:Int);omega),aX,aW];refine⟨tb n,?_,(Fk h2).2.2,by have:=(Fk h2).2.1;omega⟩;show Option.bind (M8 ((n:Int),((0:Nat):Int))) _=_;rw[XK h2 (by omega),Nat.zero_add];rfl
  ·rw[show decide ((256:Int)≤(((n:Int),(0:Int)).1,((n:Int),(0:Int)).2).1)=true from eR (by show(256:Int)≤(n:Int);omega),bf,aW];have h3:n/256<256:=by omega
   refine⟨8+tb (n/256),?_,λ_=>?_,by have:=(Fk h3).2.1;omega⟩
   ·have e:(Int.fdiv (((n:Int),(0:Int)).1,((n:Int),(0:Int)).2).1 (2^8),J ((((n:Int),(0:Int)).1,((n:Int),(0:Int)).2).2+8))=(((n/256:Nat):Int),((8:Nat):Int)):=by
     show(Int.fdiv (n:Int) (2^8),J (0+8))=_;rw[fd8];rfl
    rw[e,XK h3 (by omega)];rfl
   ·have:=(Fk h3).2.2 (by omega);rw[Nat.pow_add];omega
 ·rw[show decide ((65536:Int)≤((n:Int),(0:Int)).1)=true from eR (by show(65536:Int)≤(n:Int);omega),bf,aW];have h3:n/65536<256:=by omega
  have e:(Int.fdiv ((n:Int),(0:Int)).1 (2^16),J (((n:Int),(0:Int)).2+16))=(((n/65536:Nat):Int),((16:Nat):Int)):=by
   show(Int.fdiv (n:Int) (2^16),J (0+16))=_;rw[agI];rfl
  rw[e,show decide ((256:Int)≤((((n/65536:Nat):Int),((16:Nat):Int)):Int×Int).1)=false from du (by show¬(256:Int)≤((n/65536:Nat):Int);omega),aX,aW];refine⟨16+tb (n/65536),?_,λ_=>?_,by have:=(Fk h3).2.1;omega⟩
  ·show Option.bind (M8 (((n/65536:Nat):Int),((16:Nat):Int))) _=_;rw[XK h3 (by omega)];rfl
  ·have:=(Fk h3).2.2 (by omega);rw[Nat.pow_add];omega
theorem agJ{n:Nat}(h0:0<n)(h:n<16777216):∃p:Nat,LF (n:Int)=some (p:Int)∧0<p∧p≤2*n:=by
 obtain⟨y,e,h1,h2⟩:=a3C h;have h3:=h1 h0;refine⟨2^y,?_,Nat.pow_pos (by omega),h3⟩;rw[LF,B9 (x:=(n:Int)) (by omega) (by omega),e,aW,bP (by omega),show((y:Int)).toNat=y from rfl,show Nat.min y 64=y from Nat.min_eq_left (by omega)];have e2:(1:Int)*2^y=((2^y:Nat):Int):=by rw[Int.one_mul,Int.natCast_pow];rfl
 rw[e2];clear e2 h1 e;generalize 2^y=z at h3⊢;rw[B9 (by omega) (by omega)]
theorem agK(x:Int){p:Nat}(h:p<18446744073709551616):∃r:Nat,fD .and .u64 x (p:Int)=(r:Int)∧r≤p:=by
 have hb:(BitVec.ofInt 64 (p:Int)).toNat=p:=by
  rw[show BitVec.ofInt 64 (p:Int)=BitVec.ofNat 64 p from BitVec.ofInt_natCast ..,BitVec.toNat_ofNat];exact Nat.mod_eq_of_lt (by omega)
 have hl:(BitVec.ofInt 64 x&&&BitVec.ofInt 64 (p:Int)).toNat≤p:=by
  rw[BitVec.toNat_and,hb];exact Nat.and_le_right
 refine⟨(BitVec.ofInt 64 x&&&BitVec.ofInt 64 (p:Int)).toNat,?_,hl⟩;show cF (((BitVec.ofInt 64 x&&&BitVec.ofInt 64 (p:Int)).toNat:Int))=_;exact B9 (by omega) (by omega)
theorem agL(m:Nat){a b p:Nat}(h:a+8≤b)(ajQ:b<16777216)(hp0:0<p)(hp:p≤2*(b-a)):∀(kk i:Nat)(l:LP)(r:Int),a+(b-a)/4*2+2-i<kk→a≤i→b≤l.length→
   ∃l',HK m (a:Int) (b:Int) (p:Int) kk l (i:Int) r=some l'∧cE a b l l':=by
 intro kk
 induction kk with
 |zero=>intro i l r h;omega
 |succ kk ih=>
  intro i l r hk ha hb;have q2:=M7 (a:=a) (b:=b) (by omega) (by unfold dA;omega) 2 (by omega);rw[HK,show((2:Int))=((2:Nat):Int)from rfl,q2,lt_eq,AM (by omega),bX (by omega),lt_eq,wa (by omega) (by omega)];by_cases hi:i≤a+(b-a)/4*2+1
  ·rw[show decide ((i:Int)≤((a+(b-a)/4*2+1:Nat):Int))=true from eR (by omega),bf,lt_eq];have e1:cF ((p:Int)-1)=((p-1:Nat):Int):=by rw[B9 (by omega) (by omega)];omega
   obtain⟨r2,e2,h2⟩:=agK (LG r).1 (p:=p-1) (by omega);rw[e1,e2,lt_eq,nB (x:=(r2:Int)) (by omega) (by omega)];have hz:∃z:Nat,z<b-a∧cond (decide (((b-a:Nat):Int)≤(r2:Int))) (some (J ((r2:Int)-((b-a:Nat):Int)))) (some (r2:Int))=some (z:Int):=by
    by_cases hd:b-a≤r2
    ·exact⟨r2-(b-a),by omega,by rw[show decide (((b-a:Nat):Int)≤(r2:Int))=true from eR (by omega),bf,wa hd (by omega)]⟩
    ·exact⟨r2,by omega,by rw[show decide (((b-a:Nat):Int)≤(r2:Int))=false from du (by omega),aX]⟩
   obtain⟨z,sr,It⟩:=hz;have hs:(bN (bN l (i:Int) (gi l ((a+z:Nat):Int))) ((a+z:Nat):Int) (gi l (i:Int)))=sw l i (a+z):=rfl;rw[It,aW,AM (by omega),bP (by unfold ln;omega),bP (by unfold ln;omega),lt_eq,bP (by unfold ln;rw[sc,List.length_set];omega),lt_eq,hs];have M9:=cE.sw (a:=a) (b:=b) (i:=i) (j:=a+z) (l:=l) (by omega) (by omega) (by omega) (by omega) (by omega) (by omega);obtain⟨l',e,h3⟩:=ih (i+1) (sw l i (a+z)) (LG r).2 (by omega) (by omega) (by rw[ke];exact hb);rw[bX (by omega)];exact⟨l',e,M9.tr h3⟩
  ·rw[show decide ((i:Int)≤((a+(b-a)/4*2+1:Nat):Int))=false from du (by omega),aX];exact⟨l,rfl,cE.rfl' _⟩
theorem agM(m:Nat){a b:Nat}(sn:Mi)(ps:LP)(st:List bB)(l:LP)(h:a+8≤b)(hb:b≤l.length)(hl:l.length<16777216)(hm:l.length+2<m):
   ∃l',EY m l (a:Int) (b:Int) sn ps st=some l'∧cE a b l l':=by
 have q2:=M7 (a:=a) (b:=b) (by omega) (by unfold dA;omega) 2 (by omega);obtain⟨p,e,h1,h2⟩:=agJ (n:=b-a) (by omega) (by omega);rw[EY,show((2:Int))=((2:Nat):Int)from rfl,q2,wa (by omega) (by omega),show decide ((8:Int)≤((b-a:Nat):Int))=true from eR (by omega),bf,e,aW,lt_eq,AM (by omega),nu (by omega) (by omega)];exact agL m h (by omega) h1 h2 m _ l _ (by omega) (by omega) hb
/-- Nothing of [a, b) is less than what stands ahead of it. -/
def AN(lt:List a7→List a7→Bool)(a b:Nat)(l:LP):Prop:=0<a→∀k,a≤k→k<b→lt (gx l k) (gx l (a-1))=false
theorem AN.pm{lt:List a7→List a7→Bool}{a b c d:Nat}{l l':LP}(h:AN lt a b l)(hp:cE c d l l')(hc:a≤c)(hd:d≤b)(hb:b≤l.length):AN lt a b l':=λh0 k h1 h2=>by
 rw[hp.2.2 (a-1) (by omega)];by_cases hk:c≤k∧k<d
 ·obtain⟨q,g1,g2,e⟩:=hp.was (by omega) hk.1 hk.2;rw[e];exact h h0 q (by omega) (by omega)
 ·rw[hp.2.2 k (by omega)];exact h h0 k h1 h2
section
variable (m:Nat) {sn:Mi} {ps:LP} {st:List bB} {P:List a7→Prop} {cf:List a7→List a7→Int} (hc:Cm m sn ps st P cf) (ho:Is P (Lt cf))
include hc ho
theorem agN(a b:Nat)(l:LP)(hb:b≤l.length)(hl:l.length<dA)(hA:∀x∈l,P x):∀(kk i:Nat),b-i<kk→a<i→i≤b→kN (Lt cf) a i l→
   ∃i',HO m (b:Int) sn ps st l kk (i:Int)=some ((i':Nat):Int)∧i≤i'∧i'≤b∧kN (Lt cf) a i' l:=by
 intro kk
 induction kk with
 |zero=>intro i h;omega
 |succ kk ih=>
  intro i hk ha hi hs;rw[HO];by_cases hd:i<b
  ·have fL:decide ((i:Int)<(b:Int))=true:=eR (by omega);have hw:J ((i:Int)-1)=((i-1:Nat):Int):=nu (by omega) (by unfold dA at hl;omega);have hx:=gj (l:=l) (i:=i) (by omega);have hy:=gj (l:=l) (i:=i-1) (by omega);rw[iV (λ_=>by unfold ln;omega),iV (λ_=>by rw[hw];unfold ln;omega),fL,bf,hw,lR,lR,hc _ _ (hA _ hx) (hA _ hy),aW,lt_eq,bf];cases dJ:decide (cf (gx l i) (gx l (i-1))<0)
   ·rw[vc,bf,bX (by unfold dA at hl;omega)];obtain⟨i',e,h1,h2,h3⟩:=ih (i+1) (by omega) (by omega) (by omega) (λp q g1 g2 g3=>by
     by_cases hq:q=i
     ·subst hq;by_cases hp:p=q-1
      ·subst hp;exact dJ
      ·exact ho.nt _ _ _ (hA _ hx) (hA _ hy) (hA _ (gj (by omega))) dJ (hs p (q-1) g1 (by omega) (by omega))
     ·exact hs p q g1 g2 (by omega))
    exact⟨i',e,by omega,h2,h3⟩
   ·rw[oF,aX];exact⟨i,rfl,cZ _,hi,hs⟩
  ·have fL:decide ((i:Int)<(b:Int))=false:=du (by omega);rw[iV (λh=>by rw[fL]at h;cases h),iV (λh=>by rw[fL]at h;cases h)];simp only[fL,aX,aW,lt_eq];exact⟨i,rfl,cZ _,hi,hs⟩
theorem agO(a i:Nat):∀(j kk:Nat)(l:LP),j<kk→a≤j→j≤i→i<l.length→l.length<dA→(∀x∈l,P x)→AN (Lt cf) a (i+1) l→
   ∃l',Ct m sn ps st kk l (j:Int)=some l'∧cE a (i+1) l l'∧(Ins (Lt cf) a j i l→kN (Lt cf) a (i+1) l'):=by
 intro j
 induction j with
 |zero=>
  intro kk l hk ha hj hi hl hA hH;obtain⟨kk,rfl⟩:∃q,kk=q+1:=⟨kk-1,by omega⟩;rw[Ct,show decide ((1:Int)≤((0:Nat):Int))=false from rfl,aX];exact⟨l,rfl,cE.rfl' _,λh p q h1 h2 h3=>h p q h1 h2 (by omega) (by omega)⟩
 |succ j ih=>
  intro kk l hk ha hj hi hl hA hH;obtain⟨kk,rfl⟩:∃q,kk=q+1:=⟨kk-1,by omega⟩;have hw:J (((j+1:Nat):Int)-1)=(j:Int):=by rw[nu (by omega) (by unfold dA at hl;omega)];rfl
  have hx:=gj (l:=l) (i:=j+1) (by omega);have hy:=gj (l:=l) (i:=j) (by omega);rw[Ct,show decide ((1:Int)≤((j+1:Nat):Int))=true from eR (by omega),bf,hw,bP (by unfold ln;omega),bP (by unfold ln;omega),lR,lR,hc _ _ (hA _ hx) (hA _ hy),aW];cases dJ:decide (cf (gx l (j+1)) (gx l j)<0)
  ·rw[vc,bf];refine⟨l,rfl,cE.rfl' _,λh p q h1 h2 h3=>?_⟩;by_cases hq:q=j+1
   ·subst hq;by_cases hp:p=j
    ·subst hp;exact dJ
    ·exact ho.nt _ _ _ (hA _ hx) (hA _ hy) (hA _ (gj (by omega))) dJ (h p j h1 (by omega) (by omega) (by omega))
   ·exact h p q h1 h2 (by omega) hq
  ·have iJ:a≠j+1:=λe=>by
    have:=hH (by omega) (j+1) (by omega) (by omega);rw[e,show j+1-1=j from rfl]at this;rw[show Lt cf (gx l (j+1)) (gx l j)=true from dJ]at this;cases this
   have hs:(bN (bN l ((j+1:Nat):Int) (gx l j)) (j:Int) (gx l (j+1)))=sw l (j+1) j:=rfl;rw[oF,aX,lt_eq,bP (by unfold ln;rw[sc,List.length_set];omega),lt_eq,hs];have hp:=cE.sw (a:=a) (b:=i+1) (i:=j+1) (j:=j) (l:=l) (by omega) (by omega) (by omega) (by omega) (by omega) (by omega);obtain⟨l',e,h1,h2⟩:=ih kk (sw l (j+1) j) (by omega) (by omega) (by omega) (by rw[ke];omega) (by rw[ke];exact hl) (hp.all hA) (hH.pm hp (cZ _) (cZ _) (by omega));refine⟨l',e,hp.tr h1,λh=>h2 ?_⟩;intro p q g1 g2 g3 g4;rw[tq (by omega) (by omega),tq (by omega) (by omega),if_neg g4];by_cases q1:q=j+1
   ·subst q1;rw[if_pos rfl];by_cases p1:p=j
    ·subst p1;rw[if_pos rfl];exact ho.Fj _ _ (hA _ hx) (hA _ hy) dJ
    ·rw[if_neg p1,if_neg (by omega)];exact h p j g1 (by omega) (by omega) (by omega)
   ·rw[if_neg q1];by_cases p1:p=j
    ·rw[if_pos p1];exact h (j+1) q (by omega) (by omega) g3 q1
    ·rw[if_neg p1];by_cases p2:p=j+1
     ·rw[if_pos p2];exact h j q (by omega) (by omega) g3 q1
     ·rw[if_neg p2];exact h p q g1 g2 g3 q1
omit ho in
theorem agP(b z:Nat):∀(kk j:Nat)(l:LP),b-j<kk→z<j→b≤l.length→l.length<dA→(∀x∈l,P x)→
   ∃l',F1 m (b:Int) sn ps st (z:Int) kk l (j:Int)=some (.inr ((z:Int),l'))∧cE z b l l':=by
 intro kk
 induction kk with
 |zero=>intro j l h;omega
 |succ kk ih=>
  intro j l hk hz hb hl hA;rw[F1];by_cases hd:j<b
  ·have hw:J ((j:Int)-1)=((j-1:Nat):Int):=nu (by omega) (by unfold dA at hl;omega);have hx:=gj (l:=l) (i:=j) (by omega);have hy:=gj (l:=l) (i:=j-1) (by omega);rw[show decide ((j:Int)<(b:Int))=true from eR (by omega),bf,hw,bP (by unfold ln;omega),bP (by unfold ln;omega),lR,lR,hc _ _ (hA _ hx) (hA _ hy),aW];cases dJ:decide (cf (gx l j) (gx l (j-1))<0)
   ·exact⟨l,rfl,cE.rfl' _⟩
   ·have hs:(bN (bN l (j:Int) (gx l (j-1))) ((j-1:Nat):Int) (gx l j))=sw l j (j-1):=rfl;rw[oF,aX,lt_eq,bP (by unfold ln;rw[sc,List.length_set];omega),lt_eq,hs,bX (by unfold dA at hl;omega)];have hp:=cE.sw (a:=z) (b:=b) (i:=j) (j:=j-1) (l:=l) (by omega) (by omega) (by omega) (by omega) (by omega) (by omega);obtain⟨l',e,h1⟩:=ih (j+1) (sw l j (j-1)) (by omega) (by omega) (by rw[ke];exact hb) (by rw[ke];exact hl) (hp.all hA);exact⟨l',e,hp.tr h1⟩
  ·rw[show decide ((j:Int)<(b:Int))=false from du (by omega),aX];exact⟨l,rfl,cE.rfl' _⟩
theorem agQ(a b:Nat):∀(kk i c:Nat)(l:LP),5-c<kk→a<i→i≤b→b≤l.length→l.length<dA→l.length+1<m→(∀x∈l,P x)→AN (Lt cf) a b l→kN (Lt cf) a i l→
   ∃z,HP m (a:Int) (b:Int) sn ps st kk l (i:Int) (c:Int)=some z∧(match z with
     | .inl r=>cE a b l r.2∧(r.1=true→kN (Lt cf) a b r.2)
     | .inr l'=>cE a b l l'):=by
 intro kk
 induction kk with
 |zero=>intro i c l h;omega
 |succ kk ih=>
  intro i c l hk ha hi hb hl hm hA hH hs;rw[HP];by_cases hd:c<5
  ·rw[show decide ((c:Int)<5)=true from eR (by omega),bf];obtain⟨z,e,h1,h2,h3⟩:=agN m hc ho a b l hb hl hA m i (by omega) ha hi hs;rw[e,aW];by_cases hz:z=b
   ·subst hz;rw[show(((z:Nat):Int)==((z:Nat):Int))=true from beq_self_eq_true _,bf];exact⟨_,rfl,cE.rfl' _,λ_=>h3⟩
   ·rw[show(((z:Nat):Int)==((b:Nat):Int))=false from vb.2 (by omega),aX,wa (by omega) (by unfold dA at hl;omega)];cases hq:decide (((b-a:Nat):Int)<50)
    ·have hw:J ((z:Int)-1)=((z-1:Nat):Int):=nu (by omega) (by unfold dA at hl;omega);have hsw:(bN (bN l (z:Int) (gi l ((z-1:Nat):Int))) ((z-1:Nat):Int) (gi l (z:Int)))=sw l z (z-1):=rfl;rw[aX,hw,bP (by unfold ln;omega),bP (by unfold ln;omega),lt_eq,bP (by unfold ln;rw[sc,List.length_set];omega),lt_eq,hsw];have hp:=cE.sw (a:=a) (b:=b) (i:=z) (j:=z-1) (l:=l) (by omega) (by omega) (by omega) (by omega) (by omega) (by omega);have wc:=hp.all hA;have hH1:=hH.pm hp (cZ _) (cZ _) hb;have QG:=ke l z (z-1);have S3:∃l2,cond (decide ((2:Int)≤J ((z:Int)-(a:Int)))) (Ct m sn ps st m (sw l z (z-1)) ((z-1:Nat):Int)) (some (sw l z (z-1)))=some l2∧cE a b (sw l z (z-1)) l2∧kN (Lt cf) a z l2:=by
      rw[wa (by omega) (by unfold dA at hl;omega)];cases It:decide ((2:Int)≤((z-a:Nat):Int))
      ·have:=of_decide_eq_false It;exact⟨_,rfl,cE.rfl' _,λp q g1 g2 g3=>by omega⟩
      ·rw[bf];obtain⟨l2,e2,g1,g2⟩:=agO m hc ho a (z-1) (z-1) m (sw l z (z-1)) (by omega) (by omega) (cZ _) (by omega) (by omega) wc (λh0 k k1 k2=>hH1 h0 k k1 (by omega));refine⟨l2,e2,g1.up (cZ _) (by omega),?_⟩;have:=g2 (λp q k1 k2 k3 k4=>by
        rw[tq (by omega) (by omega),tq (by omega) (by omega),if_neg k4,if_neg (by omega),if_neg (by omega),if_neg (by omega)];exact h3 p q k1 k2 (by omega))
       rwa [show z-1+1=z by omega]at this
     obtain⟨l2,e2,g1,g2⟩:=S3;have hl2:=g1.1;rw[e2,aW];have S4:∃l3,cond (decide ((2:Int)≤J ((b:Int)-(z:Int)))) (F1 m (b:Int) sn ps st (z:Int) m l2 (J ((z:Int)+1))) (some (.inr ((z:Int),l2)))=(some (.inr ((z:Int),l3)):Option (Sum (Sum (Bool×LP) LP) (Int×LP)))∧cE z b l2 l3:=by
      cases decide ((2:Int)≤J ((b:Int)-(z:Int)))
      ·exact⟨l2,rfl,cE.rfl' _⟩
      ·rw[bf,bX (by unfold dA at hl;omega)];exact agP m hc b z m (z+1) l2 (by omega) (by omega) (by omega) (by omega) (g1.all wc)
     obtain⟨l3,e3,g3⟩:=S4;rw[e3,aW];have Fl:=(hp.tr g1).tr (g3.up (by omega) (cZ _));obtain⟨y,e4,g4⟩:=ih z (c+1) l3 (by omega) (by omega) h2 (by rw[Fl.1];exact hb) (by rw[Fl.1];exact hl) (by rw[Fl.1];exact hm) (Fl.all hA) (hH.pm Fl (cZ _) (cZ _) hb) (g2.out g3 (.inr (cZ _)));refine⟨y,?_,?_⟩
     ·rw[←e4,←bX (by omega)];rfl
     ·cases y with
      |inl r=>exact⟨Fl.tr g4.1,g4.2⟩
      |inr l'=>exact Fl.tr g4
    ·exact⟨_,rfl,cE.rfl' _,λh=>by cases h⟩
  ·rw[show decide ((c:Int)<5)=false from du (by omega),aX];exact⟨_,rfl,cE.rfl' _⟩
theorem agR{a b:Nat}{l:LP}(o0:a<b)(hb:b≤l.length)(hl:l.length<dA)(hm:l.length+6<m)(hA:∀x∈l,P x)(hH:AN (Lt cf) a b l):
   ∃r l',F2 m l (a:Int) (b:Int) sn ps st=some (r,l')∧cE a b l l'∧(r=true→kN (Lt cf) a b l'):=by
 obtain⟨z,e,h⟩:=agQ m hc ho a b m (a+1) 0 l (by omega) (by omega) (by omega) hb hl (by omega) hA hH (λp q g1 g2 g3=>by omega);rw[F2,bX (by unfold dA at hl;omega),show(0:Int)=((0:Nat):Int)from rfl,e,aW];cases z with
 |inl r=>exact⟨r.1,r.2,rfl,h.1,h.2⟩
 |inr l'=>exact⟨false,l',rfl,h,λh=>by cases h⟩
end
section
variable (m:Nat) {sn:Mi} {ps:LP} {st:List bB} {P:List a7→Prop} {cf:List a7→List a7→Int} (hc:Cm m sn ps st P cf)
omit hc in
theorem agS(a b:Int)(l:LP):∀(kk:Nat)(i:Int),HW m a b sn ps st l kk i=Cw m a sn ps st l (J (b-1)) kk i:=by
 intro kk
 induction kk with
 |zero=>intro i;rfl
 |succ kk ih=>intro i;rw[HW,Cw,ih]
omit hc in
theorem agT(a:Int)(l:LP)(z:Int):∀(kk:Nat)(i:Int),HX m a sn ps st l z kk i=Cx m a sn ps st l z kk i:=by
 intro kk
 induction kk with
 |zero=>intro i;rfl
 |succ kk ih=>intro i;rw[HX,Cx,ih]
include hc
theorem a3D{a:Nat}{l:LP}(ha:a<l.length)(hl:l.length<dA)(hA:∀x∈l,P x)(j:Nat)(hj:j<l.length):∀(kk i:Nat),j+1-i<kk→i≤j+1→
   ∃i',Cw m (a:Int) sn ps st l (j:Int) kk (i:Int)=some ((i':Nat):Int)∧i≤i'∧i'≤j+1∧(∀k,i≤k→k<i'→Lt cf (gx l k) (gx l a)=true)∧(i'≤j→Lt cf (gx l i') (gx l a)=false):=by
 intro kk
 induction kk with
 |zero=>intro i h;omega
 |succ kk ih=>
  intro i hk hi;rw[Cw];by_cases hd:i≤j
  ·have fL:decide ((i:Int)≤(j:Int))=true:=eR (by omega);have hx:=gj (l:=l) (i:=i) (by omega);rw[iV (λ_=>by unfold ln;omega),iV (λ_=>by unfold ln;omega),fL,bf,lR,lR,hc _ _ (hA _ hx) (hA _ (gj ha)),aW,lt_eq,bf];cases dJ:decide (cf (gx l i) (gx l a)<0)
   ·exact⟨i,rfl,cZ _,hi,λk h1 h2=>by omega,λ_=>dJ⟩
   ·rw[bf,bX (by unfold dA at hl;omega)];obtain⟨i',e,h1,h2,h3,h4⟩:=ih (i+1) (by omega) (by omega);exact⟨i',e,by omega,h2,λk g1 g2=>by
     by_cases hk:k=i
     ·subst hk;exact dJ
     ·exact h3 k (by omega) g2,h4⟩
  ·have fL:decide ((i:Int)≤(j:Int))=false:=du (by omega);rw[iV (λh=>by rw[fL]at h;cases h),iV (λh=>by rw[fL]at h;cases h)];simp only[fL,aX,aW,lt_eq];exact⟨i,rfl,cZ _,hi,λk h1 h2=>by omega,λh=>by omega⟩
theorem a3E{a:Nat}{l:LP}(ha:a<l.length)(hl:l.length<dA)(hA:∀x∈l,P x)(i:Nat)(hi0:0<i):∀(kk j:Nat),j+1-i<kk→i≤j+1→j<l.length→
   ∃j',Cx m (a:Int) sn ps st l (i:Int) kk (j:Int)=some ((j':Nat):Int)∧i≤j'+1∧j'≤j∧(∀k,j'<k→k≤j→Lt cf (gx l k) (gx l a)=false)∧(i≤j'→Lt cf (gx l j') (gx l a)=true):=by
 intro kk
 induction kk with
 |zero=>intro i h;omega
 |succ kk ih=>
  intro j hk hi hj;rw[Cx];by_cases hd:i≤j
  ·have fL:decide ((i:Int)≤(j:Int))=true:=eR (by omega);have hx:=gj (l:=l) (i:=j) (by omega);rw[iV (λ_=>by unfold ln;omega),iV (λ_=>by unfold ln;omega),fL,bf,lR,lR,hc _ _ (hA _ hx) (hA _ (gj ha)),aW,lt_eq,bf];cases dJ:decide (cf (gx l j) (gx l a)<0)
   ·rw[vc,bf,nu (by omega) (by unfold dA at hl;omega)];obtain⟨j',e,h1,h2,h3,h4⟩:=ih (j-1) (by omega) (by omega) (by omega);exact⟨j',e,h1,by omega,λk g1 g2=>by
     by_cases hk:k=j
     ·subst hk;exact dJ
     ·exact h3 k g1 (by omega),h4⟩
   ·rw[oF,aX];exact⟨j,rfl,hi,cZ _,λk h1 h2=>by omega,λ_=>dJ⟩
  ·have fL:decide ((i:Int)≤(j:Int))=false:=du (by omega);rw[iV (λh=>by rw[fL]at h;cases h),iV (λh=>by rw[fL]at h;cases h)];simp only[fL,aX,aW,lt_eq];exact⟨j,rfl,hi,cZ _,λk h1 h2=>by omega,λh=>by omega⟩
omit hc in
def XL(lt:List a7→List a7→Bool)(a b i j:Nat)(l:LP):Prop:=(∀k,a<k→k<i→lt (gx l k) (gx l a)=true)∧(∀k,j<k→k<b→lt (gx l k) (gx l a)=false)
theorem agU{a b:Nat}:∀(kk i j:Nat)(l:LP),j+1-i<kk→a<i→i≤j+1→j<b→b≤l.length→l.length<dA→l.length+1<m→(∀x∈l,P x)→XL (Lt cf) a b i j l→
   ∃(q:Nat)(l':LP),HZ m (a:Int) sn ps st kk l (i:Int) (j:Int)=some ((q:Int),l')∧a≤q∧q<b∧cE (a+1) b l l'∧XL (Lt cf) a b (q+1) q l':=by
 intro kk
 induction kk with
 |zero=>intro i j l h;omega
 |succ kk ih=>
  intro i j l hk ha dL hj hb hl hm hA hM;rw[HZ];obtain⟨i1,e1,h1,h2,h3,h4⟩:=a3D m hc (a:=a) (l:=l) (by omega) hl hA j (by omega) m i (by omega) dL;obtain⟨j1,e2,g1,g2,g3,g4⟩:=a3E m hc (a:=a) (l:=l) (by omega) hl hA i1 (by omega) m j (by omega) (by omega) (by omega);rw[e1,aW,e2,aW];have k1:∀k,a<k→k<i1→Lt cf (gx l k) (gx l a)=true:=λk q1 q2=>by
   by_cases hk:k<i
   ·exact hM.1 k q1 hk
   ·exact h3 k (by omega) q2
  have k2:∀k,j1<k→k<b→Lt cf (gx l k) (gx l a)=false:=λk q1 q2=>by
   by_cases hk:j<k
   ·exact hM.2 k hk q2
   ·exact g3 k q1 (by omega)
  by_cases hd:j1<i1
  ·rw[show decide ((j1:Int)<(i1:Int))=true from eR (by omega),bf];exact⟨j1,l,rfl,by omega,by omega,cE.rfl' _,λk q1 q2=>k1 k q1 (by omega),k2⟩
  ·have iJ:i1≠j1:=λe=>by
    have x1:=h4 (by omega);have x2:=g4 (by omega);rw[e]at x1;rw[x1]at x2;cases x2
   have hs:(bN (bN l (i1:Int) (gi l (j1:Int))) (j1:Int) (gi l (i1:Int)))=sw l i1 j1:=rfl;rw[show decide ((j1:Int)<(i1:Int))=false from du (by omega),aX,bP (by unfold ln;omega),bP (by unfold ln;omega),lt_eq,bP (by unfold ln;rw[sc,List.length_set];omega),lt_eq,hs,bX (by unfold dA at hl;omega),nu (by omega) (by unfold dA at hl;omega)];have hp:=cE.sw (a:=a+1) (b:=b) (i:=i1) (j:=j1) (l:=l) (by omega) (by omega) (by omega) (by omega) (by omega) (by omega);have sx:=tq (l:=l) (i:=i1) (j:=j1) (by omega) (by omega);have ea:gx (sw l i1 j1) a=gx l a:=by rw[sx,if_neg (by omega),if_neg (by omega)]
   obtain⟨q,l',e,r1,r2,r3,r4⟩:=ih (i1+1) (j1-1) (sw l i1 j1) (by omega) (by omega) (by omega) (by omega) (by rw[ke];exact hb) (by rw[ke];exact hl) (by rw[ke];exact hm) (hp.all hA) (by
    refine⟨λk q1 q2=>?_,λk q1 q2=>?_⟩
    ·rw[ea,sx,if_neg (by omega)];by_cases hk:k=i1
     ·rw[if_pos hk];exact g4 (by omega)
     ·rw[if_neg hk];exact k1 k q1 (by omega)
    ·rw[ea,sx];by_cases hk:k=j1
     ·rw[if_pos hk];exact h4 (by omega)
     ·rw[if_neg hk,if_neg (by omega)];exact k2 k (by omega) q2)
   exact⟨q,l',e,r1,r2,hp.tr r3,r4⟩
omit hc in
/-- Parted at 'q'. -/
def Prt(lt:List a7→List a7→Bool)(a b q:Nat)(l:LP):Prop:=(∀k,a≤k→k<q→lt (gx l k) (gx l q)=true)∧(∀k,q<k→k<b→lt (gx l k) (gx l q)=false)
omit hc in
theorem a3F{lt:List a7→List a7→Bool}{a b q:Nat}{l:LP}(h:XL lt a b (q+1) q l)(ha:a≤q)(hq:q<b)(hb:b≤l.length):Prt lt a b q (sw l q a):=by
 have sx:=tq (l:=l) (i:=q) (j:=a) (by omega) (by omega);by_cases hqa:q=a
 ·subst hqa;refine⟨λk h1 h2=>by omega,λk h1 h2=>?_⟩;rw[sx,sx,if_neg (by omega),if_neg (by omega),if_pos rfl];exact h.2 k h1 h2
 ·have eq:gx (sw l q a) q=gx l a:=by rw[sx,if_neg hqa,if_pos rfl]
  refine⟨λk h1 h2=>?_,λk h1 h2=>?_⟩
  ·rw[eq,sx];by_cases hk:k=a
   ·rw[if_pos hk];exact h.1 q (by omega) (by omega)
   ·rw[if_neg hk,if_neg (by omega)];exact h.1 k (by omega) (by omega)
  ·rw[eq,sx,if_neg (by omega),if_neg (by omega)];exact h.2 k h1 h2
theorem agV{a b p:Nat}{l:LP}(o0:a+2≤b)(hb:b≤l.length)(hl:l.length<dA)(hm:l.length+1<m)(hp1:a≤p)(we:p<b)(hA:∀x∈l,P x):
   ∃(q:Nat)(r:Bool)(l':LP),I1 m l (a:Int) (b:Int) (p:Int) sn ps st=some ((q:Int),r,l')∧a≤q∧q<b∧cE a b l l'∧Prt (Lt cf) a b q l':=by
 have hs:(bN (bN l (a:Int) (gi l (p:Int))) (p:Int) (gi l (a:Int)))=sw l a p:=rfl;rw[I1,bP (by unfold ln;omega),bP (by unfold ln;omega),lt_eq,bP (by unfold ln;rw[sc,List.length_set];omega),lt_eq,hs,agS,bX (by unfold dA at hl;omega),nu (by omega) (by unfold dA at hl;omega)];have hp:=cE.sw (a:=a) (b:=b) (i:=a) (j:=p) (l:=l) (by omega) (by omega) (by omega) (by omega) (by omega) (by omega);have wc:=hp.all hA;have QG:=ke l a p;generalize sw l a p=l1 at hp wc QG;obtain⟨i1,e1,h1,h2,h3,h4⟩:=a3D m hc (a:=a) (l:=l1) (by omega) (by omega) wc (b-1) (by omega) m (a+1) (by omega) (by omega);obtain⟨j1,e2,g1,g2,g3,g4⟩:=a3E m hc (a:=a) (l:=l1) (by omega) (by omega) wc i1 (by omega) m (b-1) (by omega) (by omega) (by omega);rw[e1,aW,agT,e2,aW];by_cases hd:j1<i1
 ·have tG:(bN (bN l1 (j1:Int) (gi l1 (a:Int))) (a:Int) (gi l1 (j1:Int)))=sw l1 j1 a:=rfl;rw[show decide ((j1:Int)<(i1:Int))=true from eR (by omega),bf,bP (by unfold ln;omega),bP (by unfold ln;omega),lt_eq,bP (by unfold ln;rw[sc,List.length_set];omega),lt_eq,tG];exact⟨j1,true,_,rfl,by omega,by omega,hp.tr (cE.sw (by omega) (by omega) (by omega) (by omega) (by omega) (by omega)),a3F ⟨λk q1 q2=>h3 k (by omega) (by omega),λk q1 q2=>g3 k q1 (by omega)⟩ (by omega) (by omega) (by omega)⟩
 ·have iJ:i1≠j1:=λe=>by
   have x1:=h4 (by omega);have x2:=g4 (by omega);rw[e]at x1;rw[x1]at x2;cases x2
  have tG:(bN (bN l1 (i1:Int) (gi l1 (j1:Int))) (j1:Int) (gi l1 (i1:Int)))=sw l1 i1 j1:=rfl;rw[show decide ((j1:Int)<(i1:Int))=false from du (by omega),aX,bP (by unfold ln;omega),bP (by unfold ln;omega),lt_eq,bP (by unfold ln;rw[sc,List.length_set];omega),lt_eq,tG,bX (by unfold dA at hl;omega),nu (by omega) (by unfold dA at hl;omega)];have we:=cE.sw (a:=a+1) (b:=b) (i:=i1) (j:=j1) (l:=l1) (by omega) (by omega) (by omega) (by omega) (by omega) (by omega);have sx:=tq (l:=l1) (i:=i1) (j:=j1) (by omega) (by omega);have ea:gx (sw l1 i1 j1) a=gx l1 a:=by rw[sx,if_neg (by omega),if_neg (by omega)]
  obtain⟨q,l',e,r1,r2,r3,r4⟩:=agU m hc (a:=a) (b:=b) m (i1+1) (j1-1) (sw l1 i1 j1) (by omega) (by omega) (by omega) (by omega) (by rw[ke];omega) (by rw[ke];omega) (by rw[ke];omega) (we.all wc) (by
   refine⟨λk q1 q2=>?_,λk q1 q2=>?_⟩
   ·rw[ea,sx,if_neg (by omega)];by_cases hk:k=i1
    ·rw[if_pos hk];exact g4 (by omega)
    ·rw[if_neg hk];exact h3 k (by omega) (by omega)
   ·rw[ea,sx];by_cases hk:k=j1
    ·rw[if_pos hk];exact h4 (by omega)
    ·rw[if_neg hk,if_neg (by omega)];exact g3 k (by omega) (by omega))
  have hl':=r3.1;rw[ke]at hl';have hs3:(bN (bN l' (q:Int) (gi l' (a:Int))) (a:Int) (gi l' (q:Int)))=sw l' q a:=rfl;rw[e,aW];dsimp only;rw[bP (by unfold ln;omega),bP (by unfold ln;omega),lt_eq,bP (by unfold ln;rw[sc,List.length_set];omega),lt_eq,hs3];exact⟨q,false,_,rfl,r1,r2,(hp.tr ((we.tr r3).up (by omega) (cZ _))).tr (cE.sw (by omega) (by omega) (by omega) (by omega) (by omega) (by omega)),a3F r4 r1 r2 (by omega)⟩
end
section
variable (m:Nat) {sn:Mi} {ps:LP} {st:List bB} {P:List a7→Prop} {cf:List a7→List a7→Int} (hc:Cm m sn ps st P cf)
include hc
theorem agW{a:Nat}{l:LP}(ha:a<l.length)(hl:l.length<dA)(hA:∀x∈l,P x)(j:Nat)(hj:j<l.length):∀(kk i:Nat),j+1-i<kk→i≤j+1→
   ∃i',HR m (a:Int) sn ps st l (j:Int) kk (i:Int)=some ((i':Nat):Int)∧i≤i'∧i'≤j+1∧(∀k,i≤k→k<i'→Lt cf (gx l a) (gx l k)=false)∧(i'≤j→Lt cf (gx l a) (gx l i')=true):=by
 intro kk
 induction kk with
 |zero=>intro i h;omega
 |succ kk ih=>
  intro i hk hi;rw[HR];by_cases hd:i≤j
  ·have fL:decide ((i:Int)≤(j:Int))=true:=eR (by omega);have hx:=gj (l:=l) (i:=i) (by omega);rw[iV (λ_=>by unfold ln;omega),iV (λ_=>by unfold ln;omega),fL,bf,lR,lR,hc _ _ (hA _ (gj ha)) (hA _ hx),aW,lt_eq,bf];cases dJ:decide (cf (gx l a) (gx l i)<0)
   ·rw[vc,bf,bX (by unfold dA at hl;omega)];obtain⟨i',e,h1,h2,h3,h4⟩:=ih (i+1) (by omega) (by omega);exact⟨i',e,by omega,h2,λk g1 g2=>by
     by_cases hk:k=i
     ·subst hk;exact dJ
     ·exact h3 k (by omega) g2,h4⟩
   ·rw[oF,aX];exact⟨i,rfl,cZ _,hi,λk h1 h2=>by omega,λ_=>dJ⟩
  ·have fL:decide ((i:Int)≤(j:Int))=false:=du (by omega);rw[iV (λh=>by rw[fL]at h;cases h),iV (λh=>by rw[fL]at h;cases h)];simp only[fL,aX,aW,lt_eq];exact⟨i,rfl,cZ _,hi,λk h1 h2=>by omega,λh=>by omega⟩
theorem agX{a:Nat}{l:LP}(ha:a<l.length)(hl:l.length<dA)(hA:∀x∈l,P x)(i:Nat)(hi0:0<i):∀(kk j:Nat),j+1-i<kk→i≤j+1→j<l.length→
   ∃j',HT m (a:Int) sn ps st l (i:Int) kk (j:Int)=some ((j':Nat):Int)∧i≤j'+1∧j'≤j∧(∀k,j'<k→k≤j→Lt cf (gx l a) (gx l k)=true)∧(i≤j'→Lt cf (gx l a) (gx l j')=false):=by
 intro kk
 induction kk with
 |zero=>intro i h;omega
 |succ kk ih=>
  intro j hk hi hj;rw[HT];by_cases hd:i≤j
  ·have fL:decide ((i:Int)≤(j:Int))=true:=eR (by omega);have hx:=gj (l:=l) (i:=j) (by omega);rw[iV (λ_=>by unfold ln;omega),iV (λ_=>by unfold ln;omega),fL,bf,lR,lR,hc _ _ (hA _ (gj ha)) (hA _ hx),aW,lt_eq,bf];cases dJ:decide (cf (gx l a) (gx l j)<0)
   ·exact⟨j,rfl,hi,cZ _,λk h1 h2=>by omega,λ_=>dJ⟩
   ·rw[bf,nu (by omega) (by unfold dA at hl;omega)];obtain⟨j',e,h1,h2,h3,h4⟩:=ih (j-1) (by omega) (by omega) (by omega);exact⟨j',e,h1,by omega,λk g1 g2=>by
     by_cases hk:k=j
     ·subst hk;exact dJ
     ·exact h3 k g1 (by omega),h4⟩
  ·have fL:decide ((i:Int)≤(j:Int))=false:=du (by omega);rw[iV (λh=>by rw[fL]at h;cases h),iV (λh=>by rw[fL]at h;cases h)];simp only[fL,aX,aW,lt_eq];exact⟨j,rfl,hi,cZ _,λk h1 h2=>by omega,λh=>by omega⟩
omit hc in
def XM(lt:List a7→List a7→Bool)(a b i j:Nat)(l:LP):Prop:=(∀k,a<k→k<i→lt (gx l a) (gx l k)=false)∧(∀k,j<k→k<b→lt (gx l a) (gx l k)=true)
theorem agY{a b:Nat}:∀(kk i j:Nat)(l:LP),j+1-i<kk→a<i→i≤j+1→j<b→b≤l.length→l.length<dA→l.length+1<m→(∀x∈l,P x)→XM (Lt cf) a b i j l→
   ∃(q:Nat)(l':LP),HU m (a:Int) sn ps st kk l (i:Int) (j:Int)=some ((q:Int),l')∧a<q∧q≤b∧cE (a+1) b l l'∧XM (Lt cf) a b q (q-1) l':=by
 intro kk
 induction kk with
 |zero=>intro i j l h;omega
 |succ kk ih=>
  intro i j l hk ha dL hj hb hl hm hA hM;rw[HU];obtain⟨i1,e1,h1,h2,h3,h4⟩:=agW m hc (a:=a) (l:=l) (by omega) hl hA j (by omega) m i (by omega) dL;obtain⟨j1,e2,g1,g2,g3,g4⟩:=agX m hc (a:=a) (l:=l) (by omega) hl hA i1 (by omega) m j (by omega) (by omega) (by omega);rw[e1,aW,e2,aW];have k1:∀k,a<k→k<i1→Lt cf (gx l a) (gx l k)=false:=λk q1 q2=>by
   by_cases hk:k<i
   ·exact hM.1 k q1 hk
   ·exact h3 k (by omega) q2
  have k2:∀k,j1<k→k<b→Lt cf (gx l a) (gx l k)=true:=λk q1 q2=>by
   by_cases hk:j<k
   ·exact hM.2 k hk q2
   ·exact g3 k q1 (by omega)
  by_cases hd:j1<i1
  ·rw[show decide ((j1:Int)<(i1:Int))=true from eR (by omega),bf];exact⟨i1,l,rfl,by omega,by omega,cE.rfl' _,k1,λk q1 q2=>k2 k (by omega) q2⟩
  ·have iJ:i1≠j1:=λe=>by
    have x1:=h4 (by omega);have x2:=g4 (by omega);rw[e]at x1;rw[x1]at x2;cases x2
   have hs:(bN (bN l (i1:Int) (gi l (j1:Int))) (j1:Int) (gi l (i1:Int)))=sw l i1 j1:=rfl;rw[show decide ((j1:Int)<(i1:Int))=false from du (by omega),aX,bP (by unfold ln;omega),bP (by unfold ln;omega),lt_eq,bP (by unfold ln;rw[sc,List.length_set];omega),lt_eq,hs,bX (by unfold dA at hl;omega),nu (by omega) (by unfold dA at hl;omega)];have hp:=cE.sw (a:=a+1) (b:=b) (i:=i1) (j:=j1) (l:=l) (by omega) (by omega) (by omega) (by omega) (by omega) (by omega);have sx:=tq (l:=l) (i:=i1) (j:=j1) (by omega) (by omega);have ea:gx (sw l i1 j1) a=gx l a:=by rw[sx,if_neg (by omega),if_neg (by omega)]
   obtain⟨q,l',e,r1,r2,r3,r4⟩:=ih (i1+1) (j1-1) (sw l i1 j1) (by omega) (by omega) (by omega) (by omega) (by rw[ke];exact hb) (by rw[ke];exact hl) (by rw[ke];exact hm) (hp.all hA) (by
    refine⟨λk q1 q2=>?_,λk q1 q2=>?_⟩
    ·rw[ea,sx,if_neg (by omega)];by_cases hk:k=i1
     ·rw[if_pos hk];exact g4 (by omega)
     ·rw[if_neg hk];exact k1 k q1 (by omega)
    ·rw[ea,sx];by_cases hk:k=j1
     ·rw[if_pos hk];exact h4 (by omega)
     ·rw[if_neg hk,if_neg (by omega)];exact k2 k (by omega) q2)
   exact⟨q,l',e,r1,r2,hp.tr r3,r4⟩
theorem agZ{a b p:Nat}{l:LP}(o0:a+2≤b)(hb:b≤l.length)(hl:l.length<dA)(hm:l.length+1<m)(hp1:a≤p)(we:p<b)(hA:∀x∈l,P x):
   ∃(q:Nat)(l':LP),HV m l (a:Int) (b:Int) (p:Int) sn ps st=some ((q:Int),l')∧a<q∧q≤b∧cE a b l l'∧gx l' a=gx l p∧XM (Lt cf) a b q (q-1) l':=by
 have hs:(bN (bN l (a:Int) (gi l (p:Int))) (p:Int) (gi l (a:Int)))=sw l a p:=rfl;rw[HV,bP (by unfold ln;omega),bP (by unfold ln;omega),lt_eq,bP (by unfold ln;rw[sc,List.length_set];omega),lt_eq,hs,bX (by unfold dA at hl;omega),nu (by omega) (by unfold dA at hl;omega)];have hp:=cE.sw (a:=a) (b:=b) (i:=a) (j:=p) (l:=l) (by omega) (by omega) (by omega) (by omega) (by omega) (by omega);have wc:=hp.all hA;obtain⟨q,l',e,r1,r2,r3,r4⟩:=agY m hc (a:=a) (b:=b) m (a+1) (b-1) (sw l a p) (by omega) (by omega) (by omega) (by omega) (by rw[ke];exact hb) (by rw[ke];exact hl) (by rw[ke];exact hm) wc ⟨λk q1 q2=>by omega,λk q1 q2=>by omega⟩;rw[e,aW];refine⟨q,l',rfl,r1,r2,hp.tr (r3.up (by omega) (cZ _)),?_,r4⟩;rw[r3.2.2 a (.inl (by omega)),tq (by omega) (by omega)];by_cases h:a=p
 ·rw[if_pos h,h]
 ·rw[if_neg h,if_pos rfl]
end
/-- No parent from 'lo' on is less than a child of its own. -/
def Hp(lt:List a7→List a7→Bool)(F n lo:Nat)(l:LP):Prop:=∀i,lo≤i→∀c,(c=2*i+1∨c=2*i+2)→c<n→lt (gx l (F+i)) (gx l (F+c))=false
/-- The same but for 'r', and the parent of 'r' against the children of 'r'. -/
def Ov(lt:List a7→List a7→Bool)(F n lo r:Nat)(l:LP):Prop:=
 (∀i,lo≤i→i≠r→∀c,(c=2*i+1∨c=2*i+2)→c<n→lt (gx l (F+i)) (gx l (F+c))=false)∧
 (∀p,lo≤p→(r=2*p+1∨r=2*p+2)→∀c,(c=2*r+1∨c=2*r+2)→c<n→lt (gx l (F+p)) (gx l (F+c))=false)
theorem XN{i:Nat}(h:i<4611686018427387904):J (i:Int)=(i:Int):=nB (by omega) (by omega)
theorem kid{r:Nat}(h:r<1000000000):J (J (2*(r:Int))+1)=((2*r+1:Nat):Int):=by
 rw[nB (x:=2*(r:Int)) (by omega) (by omega),nB (by omega) (by omega)];rfl
section
variable (m:Nat) {sn:Mi} {ps:LP} {st:List bB} {P:List a7→Prop} {cf:List a7→List a7→Int} (hc:Cm m sn ps st P cf) (ho:Is P (Lt cf))
include hc ho
theorem a3G(F n lo:Nat):∀(kk r:Nat)(l:LP),n+1-r<kk→lo≤r→r≤n→(r<n∨n=0)→F+n≤l.length→l.length<16777216→(∀x∈l,P x)→Ov (Lt cf) F n lo r l→
   ∃l',EV m (n:Int) (F:Int) sn ps st kk l (r:Int)=some l'∧cE (F+lo) (F+n) l l'∧Hp (Lt cf) F n lo l':=by
 intro kk
 induction kk with
 |zero=>intro r l h;omega
 |succ kk ih=>
  intro r l hk uu hr hrn hF hl hA hO;rw[EV,kid (by omega),lt_eq];by_cases hd:n≤2*r+1
  ·rw[show decide ((n:Int)≤((2*r+1:Nat):Int))=true from eR (by omega),bf];refine⟨l,rfl,cE.rfl' _,λi h1 c h2 h3=>?_⟩;by_cases hi:i=r
   ·omega
   ·exact hO.1 i h1 hi c h2 h3
  ·rw[show decide ((n:Int)≤((2*r+1:Nat):Int))=false from du (by omega),aX,bX (by omega),lt_eq,AM (i:=F) (j:=2*r+1) (by omega),bX (i:=F+(2*r+1)) (by omega),AM (i:=F) (j:=r) (by omega)];have m0:=gj (l:=l) (i:=F+(2*r+1)) (by omega);have hz:∃z:Nat,(z=2*r+1∨z=2*r+2)∧z<n∧(∀c,(c=2*r+1∨c=2*r+2)→c<n→c≠z→Lt cf (gx l (F+z)) (gx l (F+c))=false)∧
      (aH (decide (((2*r+1+1:Nat):Int)<(n:Int))=true→0≤((F+(2*r+1):Nat):Int)∧((F+(2*r+1):Nat):Int)<ln l)<|
       aH (decide (((2*r+1+1:Nat):Int)<(n:Int))=true→0≤((F+(2*r+1)+1:Nat):Int)∧((F+(2*r+1)+1:Nat):Int)<ln l)<|
       Option.bind (cond (decide (((2*r+1+1:Nat):Int)<(n:Int))) (ot m (gi l ((F+(2*r+1):Nat):Int)) (gi l ((F+(2*r+1)+1:Nat):Int)) sn ps st) (some default)) λc9=>
       cond (cond (decide (((2*r+1+1:Nat):Int)<(n:Int))) (decide (c9<0)) false) (some ((2*r+1+1:Nat):Int)) (some ((2*r+1:Nat):Int)))=some (z:Int):=by
    by_cases h2:2*r+1+1<n
    ·have m1:=gj (l:=l) (i:=F+(2*r+1)+1) (by omega);rw[iV (λ_=>by unfold ln;omega),iV (λ_=>by unfold ln;omega),show decide (((2*r+1+1:Nat):Int)<(n:Int))=true from eR (by omega),bf,lR,lR,hc _ _ (hA _ m0) (hA _ m1),aW,bf];cases dJ:decide (cf (gx l (F+(2*r+1))) (gx l (F+(2*r+1)+1))<0)
     ·refine⟨2*r+1,.inl rfl,by omega,λc g1 g2 g3=>?_,rfl⟩;rw[show F+c=F+(2*r+1)+1 by omega];exact dJ
     ·refine⟨2*r+1+1,.inr rfl,h2,λc g1 g2 g3=>?_,rfl⟩;rw[show F+c=F+(2*r+1) by omega,show F+(2*r+1+1)=F+(2*r+1)+1 by omega];exact ho.Fj _ _ (hA _ m0) (hA _ m1) dJ
    ·have hf:decide (((2*r+1+1:Nat):Int)<(n:Int))=false:=du (by omega);rw[iV (λh=>by rw[hf]at h;cases h),iV (λh=>by rw[hf]at h;cases h),hf];exact⟨2*r+1,.inl rfl,by omega,λc g1 g2 g3=>by omega,rfl⟩
   obtain⟨z,sr,It,XO,hz4⟩:=hz;have mr:=gj (l:=l) (i:=F+r) (by omega);have mz:=gj (l:=l) (i:=F+z) (by omega);rw[hz4,aW,AM (i:=F) (j:=z) (by omega),bP (by unfold ln;omega),bP (by unfold ln;omega),lR,lR,hc _ _ (hA _ mr) (hA _ mz),aW];cases dJ:decide (cf (gx l (F+r)) (gx l (F+z))<0)
   ·rw[vc,bf];refine⟨l,rfl,cE.rfl' _,λi h1 c h2 h3=>?_⟩;by_cases hi:i=r
    ·subst hi;by_cases Iu:c=z
     ·subst Iu;exact dJ
     ·exact ho.nt _ _ _ (hA _ mr) (hA _ mz) (hA _ (gj (by omega))) dJ (XO c h2 h3 Iu)
    ·exact hO.1 i h1 hi c h2 h3
   ·have hs:(bN (bN l ((F+r:Nat):Int) (gx l (F+z))) ((F+z:Nat):Int) (gx l (F+r)))=sw l (F+r) (F+z):=rfl;rw[oF,aX,lt_eq,bP (by unfold ln;rw[sc,List.length_set];omega),lt_eq,hs];have hp:=cE.sw (a:=F+lo) (b:=F+n) (i:=F+r) (j:=F+z) (l:=l) (by omega) (by omega) (by omega) (by omega) (by omega) (by omega);have sx:=tq (l:=l) (i:=F+r) (j:=F+z) (by omega) (by omega);have ez:gx (sw l (F+r) (F+z)) (F+z)=gx l (F+r):=by rw[sx,if_pos rfl]
    have er:gx (sw l (F+r) (F+z)) (F+r)=gx l (F+z):=by rw[sx,if_neg (by omega),if_pos rfl]
    have eo:∀k,k≠r→k≠z→gx (sw l (F+r) (F+z)) (F+k)=gx l (F+k):=λk g1 g2=>by rw[sx,if_neg (by omega),if_neg (by omega)]
    obtain⟨l',e,g1,g2⟩:=ih z (sw l (F+r) (F+z)) (by omega) (by omega) (by omega) (.inl It) (by rw[ke];exact hF) (by rw[ke];exact hl) (hp.all hA) (by
     refine⟨λi h1 h2 c h3 h4=>?_,λp h1 h2 c h3 h4=>?_⟩
     ·by_cases hi:i=r
      ·subst hi;rw[er];by_cases Iu:c=z
       ·subst Iu;rw[ez];exact ho.Fj _ _ (hA _ mr) (hA _ mz) dJ
       ·rw[eo c (by omega) Iu];exact XO c h3 h4 Iu
      ·rw[eo i hi h2];by_cases MS:c=r
       ·subst MS;rw[er];exact hO.2 i h1 h3 z sr It
       ·rw[eo c MS (by omega)];exact hO.1 i h1 hi c h3 h4
     ·have hpr:p=r:=by omega
      subst hpr;rw[er,eo c (by omega) (by omega)];exact hO.1 z (by omega) (by omega) c h3 h4)
    exact⟨l',e,hp.tr g1,g2⟩
theorem ah0(F n:Nat)(hn:0<n):∀(kk t:Nat)(l:LP),t<kk→t≤n→F+n≤l.length→l.length<16777216→l.length+2<m→(∀x∈l,P x)→Hp (Lt cf) F n t l→
   ∃l',HH m (F:Int) ((F+n:Nat):Int) sn ps st kk l ((t:Int)-1)=some l'∧cE F (F+n) l l'∧Hp (Lt cf) F n 0 l':=by
 intro kk
 induction kk with
 |zero=>intro t l h;omega
 |succ kk ih=>
  intro t l hk ht hF hl hm hA hH;rw[HH];cases t with
  |zero=>exact⟨l,rfl,cE.rfl' _,hH⟩
  |succ t=>
   rw[show((t+1:Nat):Int)-1=(t:Int) by omega,show decide ((0:Int)≤(t:Int))=true from eR (by omega),bf,wa (by omega) (by omega),show F+n-F=n by omega];obtain⟨l1,e1,h1,h2⟩:=a3G m hc ho F n t m t l (by omega) (cZ _) (by omega) (.inl (by omega)) hF hl hA ⟨λi g1 g2 c g3 g4=>hH i (by omega) c g3 g4,λp g1 g2 c g3 g4=>by omega⟩;rw[EW,e1,aW,nB (x:=(t:Int)-1) (by omega) (by omega)];obtain⟨l2,e2,h3,h4⟩:=ih t l1 (by omega) (by omega) (by rw[h1.1];exact hF) (by rw[h1.1];exact hl) (by rw[h1.1];exact hm) (h1.all hA) h2;exact⟨l2,e2,(h1.up (by omega) (cZ _)).tr h3,h4⟩
omit hc in
theorem ah1{F n:Nat}{l:LP}(hF:F+n≤l.length)(hA:∀x∈l,P x)(h:Hp (Lt cf) F n 0 l):∀k,k<n→Lt cf (gx l F) (gx l (F+k))=false:=by
 intro k
 induction k using Nat.strongRecOn with
 |_ k ih=>
  intro hk;by_cases h0:k=0
  ·subst h0;exact ho.ir _ (hA _ (gj (by omega)))
  ·exact ho.nt _ _ _ (hA _ (gj (by omega))) (hA _ (gj (i:=F+(k-1)/2) (by omega))) (hA _ (gj (by omega))) (ih ((k-1)/2) (by omega) (by omega)) (h ((k-1)/2) (by omega) k (by omega) hk)
theorem ah2(F n:Nat):∀(kk t:Nat)(l:LP),t<kk→t≤n→F+n≤l.length→l.length<16777216→l.length+2<m→(∀x∈l,P x)→Hp (Lt cf) F t 0 l→kN (Lt cf) (F+t) (F+n) l→(∀p q,p<t→t≤q→q<n→Lt cf (gx l (F+q)) (gx l (F+p))=false)→
   ∃l',HI m (F:Int) sn ps st kk l ((t:Int)-1)=some l'∧cE F (F+n) l l'∧kN (Lt cf) F (F+n) l':=by
 intro kk
 induction kk with
 |zero=>intro t l h;omega
 |succ kk ih=>
  intro t l hk ht hF hl hm hA hH hS hM;rw[HI];cases t with
  |zero=>exact⟨l,rfl,cE.rfl' _,hS⟩
  |succ t=>
   have hs:(bN (bN l (F:Int) (gi l ((F+t:Nat):Int))) ((F+t:Nat):Int) (gi l (F:Int)))=sw l F (F+t):=rfl;rw[show((t+1:Nat):Int)-1=(t:Int) by omega,show decide ((0:Int)≤(t:Int))=true from eR (by omega),bf,AM (by omega),bP (by unfold ln;omega),bP (by unfold ln;omega),lt_eq,bP (by unfold ln;rw[sc,List.length_set];omega),lt_eq,hs];have hp:=cE.sw (a:=F) (b:=F+n) (i:=F) (j:=F+t) (l:=l) (by omega) (by omega) (by omega) (by omega) (by omega) (by omega);have sx:=tq (l:=l) (i:=F) (j:=F+t) (by omega) (by omega);have mx:=ah1 ho (l:=l) (F:=F) (n:=t+1) (by omega) hA hH;have wc:=hp.all hA;have QG:=ke l F (F+t);have et:gx (sw l F (F+t)) (F+t)=gx l F:=by rw[sx,if_pos rfl]
   have ei:∀k,k<t→∃k',k'<t+1∧gx (sw l F (F+t)) (F+k)=gx l (F+k'):=λk hk=>by
    rw[sx,if_neg (by omega)];by_cases h0:F+k=F
    ·rw[if_pos h0];exact⟨t,by omega,rfl⟩
    ·rw[if_neg h0];exact⟨k,by omega,rfl⟩
   have XP:∀q,t<q→gx (sw l F (F+t)) (F+q)=gx l (F+q):=λq hq=>by rw[sx,if_neg (by omega),if_neg (by omega)]
   obtain⟨l1,e1,h1,h2⟩:=a3G m hc ho F t 0 m 0 (sw l F (F+t)) (by omega) (cZ _) (by omega) (by omega) (by omega) (by omega) wc ⟨λi g1 g2 c g3 g4=>by
     rw[sx,if_neg (by omega),if_neg (by omega),sx,if_neg (by omega),if_neg (by omega)];exact hH i (by omega) c g3 (by omega),λp g1 g2 c g3 g4=>by omega⟩
   rw[EW];have tH:EV m (t:Int) (F:Int) sn ps st m (sw l F (F+t)) 0=some l1:=e1;rw[tH,aW,nB (x:=(t:Int)-1) (by omega) (by omega)];have was:=λk (hk:k<t)=>h1.was (by omega) (k:=F+k) (by omega) (by omega);have out:∀q,t≤q→gx l1 (F+q)=gx (sw l F (F+t)) (F+q):=λq hq=>h1.2.2 _ (.inr (by omega));have low:∀k,k<t→∃k',k'<t+1∧gx l1 (F+k)=gx l (F+k'):=λk hk=>by
    obtain⟨q,q1,q2,q3⟩:=was k hk;obtain⟨k',k1,k2⟩:=ei (q-F) (by omega);exact⟨k',k1,by rw[q3,←k2,show F+(q-F)=q by omega]⟩
   obtain⟨l2,e2,h3,h4⟩:=ih t l1 (by omega) (by omega) (by rw[h1.1];omega) (by rw[h1.1];omega) (by rw[h1.1];omega) (h1.all wc) h2
    (λi j g1 g2 g3=>by
     obtain⟨i',rfl⟩:∃q,i=F+q:=⟨i-F,by omega⟩;obtain⟨j',rfl⟩:∃q,j=F+q:=⟨j-F,by omega⟩;rw[out i' (by omega),out j' (by omega),XP j' (by omega)];by_cases hi:i'=t
     ·subst hi;rw[et];exact hM 0 j' (by omega) (by omega) (by omega)
     ·rw[XP i' (by omega)];exact hS _ _ (by omega) (by omega) (by omega))
    (λp q g1 g2 g3=>by
     obtain⟨k',k1,k2⟩:=low p g1;rw[k2,out q (by omega)];by_cases hq:q=t
     ·subst hq;rw[et];exact mx k' k1
     ·rw[XP q (by omega)];exact hM k' q k1 (by omega) g3)
   exact⟨l2,e2,(hp.tr (h1.up (by omega) (by omega))).tr h3,h4⟩
theorem ah3{a b:Nat}{l:LP}(o0:a<b)(hb:b≤l.length)(hl:l.length<16777216)(hm:l.length+3<m)(hA:∀x∈l,P x):
   ∃l',HJ m l (a:Int) (b:Int) sn ps st=some l'∧cE a b l l'∧kN (Lt cf) a b l':=by
 obtain⟨n,rfl⟩:∃n,b=a+n:=⟨b-a,by omega⟩;have hq:Int.tdiv (((n-1:Nat)):Int) 2=(((n-1)/2:Nat):Int):=rfl;obtain⟨l1,e1,h1,h2⟩:=ah0 m hc ho a n (by omega) m ((n-1)/2+1) l (by omega) (by omega) hb hl (by omega) hA (λi g1 c g2 g3=>by omega);obtain⟨l2,e2,h3,h4⟩:=ah2 m hc ho a n m n l1 (by omega) (cZ _) (by rw[h1.1];exact hb) (by rw[h1.1];exact hl) (by rw[h1.1];omega) (h1.all hA) h2 (λi j g1 g2 g3=>by omega) (λp q g1 g2 g3=>by omega);refine⟨l2,?_,h1.tr h3,h4⟩;have x1:((((n-1)/2+1:Nat):Int)-1)=(((n-1)/2:Nat):Int):=by omega
 have x2:(((n:Nat):Int)-1)=((n-1:Nat):Int):=by omega
 rw[x1]at e1;rw[x2]at e2;rw[HJ,wa (by omega) (by omega),show a+n-a=n by omega,nu (by omega) (by omega),hq,lt_eq,XN (by omega),e1,aW];exact e2
end
/-- What stands ahead of 'q' is not above it, what stands behind is not below it. -/
def AO(lt:List a7→List a7→Bool)(a b q:Nat)(l:LP):Prop:=(∀k,a≤k→k<q→lt (gx l q) (gx l k)=false)∧(∀k,q<k→k<b→lt (gx l k) (gx l q)=false)
theorem AO.left{lt:List a7→List a7→Bool}{a b q:Nat}{l l':LP}(h:AO lt a b q l)(hp:cE a q l l')(hq:q≤l.length):AO lt a b q l':=by
 refine⟨λk h1 h2=>?_,λk h1 h2=>?_⟩
 ·obtain⟨j,g1,g2,e⟩:=hp.was hq h1 h2;rw[e,hp.2.2 q (.inr (cZ _))];exact h.1 j g1 g2
 ·rw[hp.2.2 q (.inr (cZ _)),hp.2.2 k (.inr (by omega))];exact h.2 k h1 h2
theorem AO.right{lt:List a7→List a7→Bool}{a b q:Nat}{l l':LP}(h:AO lt a b q l)(hp:cE (q+1) b l l')(hb:b≤l.length):AO lt a b q l':=by
 refine⟨λk h1 h2=>?_,λk h1 h2=>?_⟩
 ·rw[hp.2.2 q (.inl (by omega)),hp.2.2 k (.inl (by omega))];exact h.1 k h1 h2
 ·obtain⟨j,g1,g2,e⟩:=hp.was hb (k:=k) (by omega) h2;rw[e,hp.2.2 q (.inl (by omega))];exact h.2 j (by omega) g2
theorem AO.glue{P:List a7→Prop}{lt:List a7→List a7→Bool}(ho:Is P lt){a b q:Nat}{l:LP}(hA:∀x∈l,P x)(hb:b≤l.length)(hq:q<b)(h:AO lt a b q l)(h1:kN lt a q l)(h2:kN lt (q+1) b l):kN lt a b l:=λi j g1 g2 g3=>by
 by_cases hj:j<q
 ·exact h1 i j g1 g2 hj
 ·by_cases hi:q<i
  ·exact h2 i j (by omega) g2 g3
  ·by_cases hjq:j=q
   ·subst hjq;exact h.1 i g1 g2
   ·by_cases Zi:i=q
    ·subst Zi;exact h.2 j (by omega) g3
    ·exact ho.nt _ _ _ (hA _ (gj (by omega))) (hA _ (gj (i:=q) (by omega))) (hA _ (gj (by omega))) (h.2 j (by omega) g3) (h.1 i g1 (by omega))
section
variable (m:Nat) {sn:Mi} {ps:LP} {st:List bB} {P:List a7→Prop} {cf:List a7→List a7→Int} (hc:Cm m sn ps st P cf) (ho:Is P (Lt cf))
include hc ho
theorem ah4(rec:LP→Int→Int→Int→Mi→LP→List bB→Option LP)(N:Nat)
   (Iv:∀(l:LP)(a b:Nat)(tt:Int),a≤b→b-a<N→b≤l.length→l.length<16777216→l.length+6<m→(∀x∈l,P x)→AN (Lt cf) a b l→∃l',rec l (a:Int) (b:Int) tt sn ps st=some l'∧cE a b l l'∧kN (Lt cf) a b l'):
   ∀(kk a b:Nat)(l:LP)(tt:Int)(wb wp:Bool),b-a<kk→b-a≤N→a≤b→b≤l.length→l.length<16777216→l.length+6<m→(∀x∈l,P x)→AN (Lt cf) a b l→
   ∃l',Cy m sn ps st rec kk l (a:Int) (b:Int) tt wb wp=some l'∧cE a b l l'∧kN (Lt cf) a b l':=by
 intro kk
 induction kk with
 |zero=>intro a b l tt wb wp h;omega
 |succ kk ih=>
  intro a b l tt wb wp hk hN o0 hb hl hm hA hH;have hB:l.length<dA:=by unfold dA;omega
  rw[Cy,wa o0 (by omega)];by_cases h12:b-a≤12
  ·obtain⟨l',e,h1,h2⟩:=agC m hc ho a b l o0 hb hB (by omega) hA;rw[show decide (((b-a:Nat):Int)≤12)=true from eR (by omega),bf,e];exact⟨l',rfl,h1,h2⟩
  ·rw[show decide (((b-a:Nat):Int)≤12)=false from du (by omega),aX];cases tt==0 with
   |true=>
    obtain⟨l',e,h1,h2⟩:=ah3 m hc ho (a:=a) (b:=b) (l:=l) (by omega) hb hl (by omega) hA;rw[bf,e];exact⟨l',rfl,h1,h2⟩
   |false=>
    rw[aX];have S1:∃(Fm:Int)(l1:LP),cond (!wb) (Option.bind (EY m l (a:Int) (b:Int) sn ps st) λrF=>some (J (tt-1),rF)) (some (tt,l))=some (Fm,l1)∧cE a b l l1:=by
     cases wb
     ·obtain⟨l1,e,h1⟩:=agM m (a:=a) (b:=b) sn ps st l (by omega) hb hl (by omega);exact⟨_,l1,by rw[vc,bf,e,aW],h1⟩
     ·exact⟨tt,l,rfl,cE.rfl' _⟩
    obtain⟨Fm,l1,e1,p1⟩:=S1;obtain⟨pv,s,e2,v1,v2⟩:=agF m hc (l:=l1) (p1.all hA) (a:=a) (b:=b) (by omega) (by rw[p1.1];exact hb) (by rw[p1.1];exact hB);rw[e1,aW];dsimp only;rw[e2,aW];dsimp only;have S2:∃(p:Nat)(s':Int)(l2:LP),cond (s==2) (Option.bind (EZ m l1 (a:Int) (b:Int) sn ps st) λI2=>lt (J (J ((b:Int)-1)-J ((pv:Int)-(a:Int)))) λrS=>some (rS,1,I2)) (some ((pv:Int),s,l1))=some ((p:Int),s',l2)∧cE a b l1 l2∧a≤p∧p<b:=by
     cases s==2
     ·exact⟨pv,s,l1,rfl,cE.rfl' _,v1,v2⟩
     ·obtain⟨l2,e,h1⟩:=agE m a b sn ps st l1 (by omega) (by rw[p1.1];exact hb) (by rw[p1.1];exact hB) (by rw[p1.1];omega);refine⟨(b-1)-(pv-a),1,l2,?_,h1,by omega,by omega⟩;rw[bf,e,aW,nu (by omega) (by omega),wa v1 (by omega),wa (by omega) (by omega),lt_eq]
    obtain⟨p,s',l2,e3,p2,u1,u2⟩:=S2;have Fo:=p1.tr p2;rw[e3,aW];dsimp only;have hA2:=Fo.all hA;have hH2:=hH.pm Fo (cZ _) (cZ _) hb;have S3:∃z,(lt (cond (cond wb wp false) (s'==1) false) λLL=>cond LL (Option.bind (F2 m l2 (a:Int) (b:Int) sn ps st) λAp=>cond Ap.1 (some (.inl Ap.2)) (some (.inr Ap.2))) (some (.inr l2)))=(some z:Option (Sum LP LP))∧(match z with| .inl l3=>cE a b l2 l3∧kN (Lt cf) a b l3| .inr l3=>cE a b l2 l3):=by
     rw[lt_eq];cases cond (cond wb wp false) (s'==1) false
     ·exact⟨.inr l2,rfl,cE.rfl' _⟩
     ·obtain⟨r,l3,e,h1,h2⟩:=agR m hc ho (a:=a) (b:=b) (l:=l2) (by omega) (by rw[Fo.1];exact hb) (by rw[Fo.1];exact hB) (by rw[Fo.1];exact hm) hA2 hH2;rw[bf,e,aW];cases r
      ·exact⟨.inr l3,rfl,h1⟩
      ·exact⟨.inl l3,rfl,h1,h2 rfl⟩
    obtain⟨z,e4,p3⟩:=S3;rw[e4,aW];cases z with
    |inl l3=>exact⟨l3,rfl,Fo.tr p3.1,p3.2⟩
    |inr l3=>
     have p3:cE a b l2 l3:=p3;have q3:=Fo.tr p3;have QH:=q3.all hA;have hH3:=hH.pm q3 (cZ _) (cZ _) hb;have L3:=q3.1;show∃l',aH (decide (0<(a:Int))=true→0≤J ((a:Int)-1)∧J ((a:Int)-1)<ln l3) _=_∧_;have hx:∃x:Bool,(x=true→0<a∧Lt cf (gx l3 (a-1)) (gx l3 p)=false)∧∀{β:Type}(f:Bool→Option β),(aH (decide (0<(a:Int))=true→0≤J ((a:Int)-1)∧J ((a:Int)-1)<ln l3)<|aH (decide (0<(a:Int))=true→0≤(p:Int)∧(p:Int)<ln l3)<|Option.bind (cond (decide (0<(a:Int))) (ot m (gi l3 (J ((a:Int)-1))) (gi l3 (p:Int)) sn ps st) (some default)) λPK=>lt (cond (decide (0<(a:Int))) (!(decide (PK<0))) false) f)=f x:=by
      by_cases ha:0<a
      ·have hw:J ((a:Int)-1)=((a-1:Nat):Int):=nu ha (by omega);refine⟨!(decide (cf (gx l3 (a-1)) (gx l3 p)<0)),λh=>⟨ha,by simpa using h⟩,λf=>?_⟩;rw[iV (λ_=>by rw[hw];unfold ln;omega),iV (λ_=>by unfold ln;omega),show decide (0<(a:Int))=true from eR (by omega),bf,hw,lR,lR,hc _ _ (QH _ (gj (by omega))) (QH _ (gj (by omega))),aW,lt_eq,bf]
      ·have hf:decide (0<(a:Int))=false:=du (by omega);refine⟨false,(λh=>by cases h),λf=>?_⟩;rw[iV (λh=>by rw[hf]at h;cases h),iV (λh=>by rw[hf]at h;cases h),hf];rfl
     obtain⟨x,AJ,hx2⟩:=hx;rw[hx2];cases x with
     |true=>
      obtain⟨ha,dJ⟩:=AJ rfl;obtain⟨q,l4,e5,w1,w2,p4,w3,w4⟩:=agZ m hc (a:=a) (b:=b) (p:=p) (l:=l3) (by omega) (by omega) (by unfold dA;omega) (by omega) u1 u2 QH;have q4:=q3.tr p4;have xA:=q4.all hA;have L4:=q4.1;have P4:∀k,k<l4.length→P (gx l4 k):=λk hk=>xA _ (gj hk);have low:∀k,a≤k→k<q→Lt cf (gx l4 a) (gx l4 k)=false:=λk g1 g2=>by
       by_cases hka:k=a
       ·subst hka;exact ho.ir _ (P4 _ (by omega))
       ·exact w4.1 k (by omega) g2
      have high:∀k,q≤k→k<b→Lt cf (gx l4 a) (gx l4 k)=true:=λk g1 g2=>w4.2 k (by omega) g2;have a3H:∀k,q≤k→k<b→Lt cf (gx l4 k) (gx l4 a)=false:=λk g1 g2=>ho.Fj _ _ (P4 _ (by omega)) (P4 _ (by omega)) (high k g1 g2);rw[bf,e5,aW];dsimp only;obtain⟨l5,e6,p5,s5⟩:=ih q b l4 Fm wb wp (by omega) (by omega) w2 (by omega) (by omega) (by omega) xA (λ_ k g1 g2=>ho.nt _ _ _ (P4 _ (by omega)) (P4 a (by omega)) (P4 _ (by omega)) (a3H k g1 g2) (low (q-1) (by omega) (by omega)));refine⟨l5,e6,q4.tr (p5.up (by omega) (cZ _)),λi j g1 g2 g3=>?_⟩;have QI:=hH3.pm p4 (cZ _) (cZ _) (by omega);by_cases hj:j<q
      ·rw[p5.2.2 i (.inl (by omega)),p5.2.2 j (.inl hj)];have t1:=QI ha j (by omega) g3;have t2:Lt cf (gx l4 (a-1)) (gx l4 a)=false:=by rw[w3,p4.2.2 (a-1) (.inl (by omega))];exact dJ
       exact ho.nt _ _ _ (P4 _ (by omega)) (P4 a (by omega)) (P4 _ (by omega)) (ho.nt _ _ _ (P4 _ (by omega)) (P4 (a-1) (by omega)) (P4 _ (by omega)) t1 t2) (low i g1 (by omega))
      ·by_cases hi:i<q
       ·obtain⟨j',k1,k2,ej⟩:=p5.was (by omega) (k:=j) (by omega) g3;rw[p5.2.2 i (.inl hi),ej];exact ho.nt _ _ _ (P4 _ (by omega)) (P4 a (by omega)) (P4 _ (by omega)) (a3H j' k1 k2) (low i g1 hi)
       ·exact s5 i j (by omega) g2 g3
     |false=>
      obtain⟨q,r,l4,e5,w1,w2,p4,w3⟩:=agV m hc (a:=a) (b:=b) (p:=p) (l:=l3) (by omega) (by omega) (by unfold dA;omega) (by omega) u1 u2 QH;have q4:=q3.tr p4;have xA:=q4.all hA;have L4:=q4.1;have hP:AO (Lt cf) a b q l4:=⟨λk g1 g2=>ho.Fj _ _ (xA _ (gj (by omega))) (xA _ (gj (by omega))) (w3.1 k g1 g2),w3.2⟩;have QI:=hH3.pm p4 (cZ _) (cZ _) (by omega);rw[aX,e5,aW];dsimp only;rw[lt_eq];cases decide (J ((q:Int)-(a:Int))<J ((b:Int)-(q:Int)))with
      |true=>
       rw[bf,lt_eq];obtain⟨l5,e6,p5,s5⟩:=Iv l4 a q Fm (by omega) (by omega) (by omega) (by omega) (by omega) xA (λh k g1 g2=>QI h k g1 (by omega));have L5:=p5.1;rw[e6,aW,bX (by omega)];have QJ:=hP.left p5 (by omega);obtain⟨l6,e7,p6,s6⟩:=ih (q+1) b l5 Fm (decide (J (Int.tdiv ((b-a:Nat):Int) 8)≤J ((q:Int)-(a:Int)))) r (by omega) (by omega) (by omega) (by omega) (by omega) (by omega) (p5.all xA) (λ_ k g1 g2=>QJ.2 k (by omega) g2);refine⟨l6,e7,q4.tr ((p5.up (cZ _) (by omega)).tr (p6.up (by omega) (cZ _))),?_⟩;exact(QJ.right p6 (by omega)).glue ho (p6.all (p5.all xA)) (by rw[p6.1];omega) w2 (s5.out p6 (.inr (by omega))) s6
      |false=>
       rw[aX,lt_eq,bX (by omega)];obtain⟨l5,e6,p5,s5⟩:=Iv l4 (q+1) b Fm (by omega) (by omega) (by omega) (by omega) (by omega) xA (λ_ k g1 g2=>hP.2 k (by omega) g2);have L5:=p5.1;rw[e6,aW];have QJ:=hP.right p5 (by omega);obtain⟨l6,e7,p6,s6⟩:=ih a q l5 Fm (decide (J (Int.tdiv ((b-a:Nat):Int) 8)≤J ((b:Int)-(q:Int)))) r (by omega) (by omega) (by omega) (by omega) (by omega) (by omega) (p5.all xA) (λh k g1 g2=>by
        rw[p5.2.2 k (.inl (by omega)),p5.2.2 (a-1) (.inl (by omega))];exact QI h k g1 (by omega))
       refine⟨l6,e7,q4.tr ((p5.up (by omega) (cZ _)).tr (p6.up (cZ _) (by omega))),?_⟩;exact(QJ.left p6 (by omega)).glue ho (p6.all (p5.all xA)) (by rw[p6.1];omega) w2 s6 (s5.out p6 (.inl (by omega)))
theorem ah5:∀(k:Nat)(l:LP)(a b:Nat)(tt:Int),a≤b→b-a<k→b≤l.length→l.length<16777216→l.length+6<m→(∀x∈l,P x)→AN (Lt cf) a b l→
   ∃l',F3 m k l (a:Int) (b:Int) tt sn ps st=some l'∧cE a b l l'∧kN (Lt cf) a b l':=by
 intro k
 induction k with
 |zero=>intro l a b tt h1 h2;omega
 |succ k ih=>
  intro l a b tt h1 h2 hb hl hm hA hH;exact ah4 m hc ho (F3 m k) k ih m a b l tt true true (by omega) (by omega) h1 hb hl hm hA hH
theorem ah6{l:LP}(hl:l.length<16777216)(hm:l.length+6<m)(hA:∀x∈l,P x):
   ∃l',I7 m l sn ps st=some l'∧l'.Perm l∧∀i j,i<j→j<l'.length→Lt cf (gx l' j) (gx l' i)=false:=by
 obtain⟨y,e,_,_⟩:=a3C (n:=l.length) hl;obtain⟨l',e2,h1,h2⟩:=ah5 m hc ho m l 0 l.length (y:Int) (by omega) (by omega) (cZ _) hl hm hA (λh=>by omega);refine⟨l',?_,h1.2.1,λi j g1 g2=>h2 i j (by omega) g1 (by rw[h1.1]at g2;exact g2)⟩;have e3:PW m l 0 (ln l) (y:Int) sn ps st=some l':=e2;rw[I7,show ln l=((l.length:Nat):Int)from rfl,B9 (by omega) (by omega),e,aW,show PW m l 0 ((l.length:Nat):Int) (y:Int) sn ps st=some l' from e3];rfl
end
theorem a3I:∀(k n:Nat),(my k n).length≤k+1:=by
 intro k
 induction k with
 |zero=>intro n;rw[my];simp
 |succ k ih=>
  intro n;rw[my];cases Nat.blt n 10
  ·rw[aX,eU];have:=ih (n/10);simp;omega
  ·rw[bf];simp
theorem a3J{n:Nat}(h:n<10):Nat.blt n 10=true:=by rw[Nat.blt_eq];exact h
theorem a3K{n:Nat}(h:¬n<10):Nat.blt n 10=false:=by
 cases hx:Nat.blt n 10 with
 |false=>rfl
 |true=>rw[Nat.blt_eq]at hx;exact absurd hx h
def QK(s:a7):Nat:=s.foldl (λv b=>10*v+(b.toNat-48)) 0
theorem QL{d:Nat}(h:d<10):(UInt8.ofNat (48+d)).toNat=48+d:=by
 rw[UInt8.toNat_ofNat'];exact Nat.mod_eq_of_lt (by omega)
theorem ah7:∀(k n:Nat),∀b∈my k n,48≤b.toNat∧b.toNat≤57:=by
 intro k
 induction k with
 |zero=>intro n b hb;cases hb
 |succ k ih=>
  intro n b hb;rw[my]at hb;by_cases h:n<10
  ·rw[a3J h,bf,List.mem_singleton]at hb;rw[hb,QL h];omega
  ·rw[a3K h,aX,List.mem_append,List.mem_singleton]at hb;rcases hb with hb|hb
   ·exact ih _ b hb
   ·rw[hb,QL (by omega)];omega
theorem a3L:∀(k n:Nat),n<10^k→QK (my k n)=n:=by
 intro k
 induction k with
 |zero=>intro n h;rw[Nat.pow_zero]at h;rw[my];have:n=0:=(by omega);rw[this];rfl
 |succ k ih=>
  intro n h;rw[my];by_cases hn:n<10
  ·rw[a3J hn,bf];show 10*0+((UInt8.ofNat (48+n)).toNat-48)=n;rw[QL hn];omega
  ·rw[a3K hn,aX];have:=ih (n/10) (by rw[Nat.pow_succ]at h;omega);rw[QK,List.foldl_append];show 10*QK (my k (n/10))+((UInt8.ofNat (48+n%10)).toNat-48)=n;rw[this,QL (by omega)];omega
def mV(p:List a7):a7:=p.flatMap λs=>my 20 s.length++(58::s)
theorem Ma(s:a7)(p:List a7):mV (s::p)=my 20 s.length++(58::(s++mV p)):=by simp[mV]
theorem ah8:∀(A B X Y:a7),(∀b∈A,b≠58)→(∀b∈B,b≠58)→A++(58::X)=B++(58::Y)→A=B∧X=Y:=by
 intro A
 induction A with
 |nil=>
  intro B X Y hA hB h;cases B with
  |nil=>exact⟨rfl,(List.cons.inj h).2⟩
  |cons b B=>exact absurd (List.cons.inj h).1.symm (hB b (List.mem_cons_self ..))
 |cons a A ih=>
  intro B X Y hA hB h;cases B with
  |nil=>exact absurd (List.cons.inj h).1 (hA a (List.mem_cons_self ..))
  |cons b B=>
   obtain⟨h1,h2⟩:=List.cons.inj h;obtain⟨h3,h4⟩:=ih B X Y (λx hx=>hA x (List.mem_cons_of_mem _ hx)) (λx hx=>hB x (List.mem_cons_of_mem _ hx)) h2;exact⟨by rw[h1,h3],h4⟩
theorem a3M(n:Nat):∀b∈my 20 n,b≠58:=λb hb e=>by
 have:=ah7 20 n b hb;rw[e]at this;have:(58:UInt8).toNat=58:=rfl;omega
theorem ah9:∀(p q:List a7),(∀s∈p,s.length<10^20)→(∀s∈q,s.length<10^20)→mV p=mV q→p=q:=by
 intro p
 induction p with
 |nil=>
  intro q hp hq h;cases q with
  |nil=>rfl
  |cons t q=>rw[Ma]at h;exact absurd (congrArg List.length h) (by simp[mV])
 |cons s p ih=>
  intro q hp hq h;cases q with
  |nil=>rw[Ma]at h;exact absurd (congrArg List.length h) (by simp[mV])
  |cons t q=>
   rw[Ma,Ma]at h;obtain⟨h1,h2⟩:=ah8 _ _ _ _ (a3M _) (a3M _) h;have hl:s.length=t.length:=by
    have:=congrArg QK h1;rwa [a3L 20 _ (hp s (List.mem_cons_self ..)),a3L 20 _ (hq t (List.mem_cons_self ..))]at this
   obtain⟨h3,h4⟩:=List.append_inj h2 hl;rw[h3,ih q (λx hx=>hp x (List.mem_cons_of_mem _ hx)) (λx hx=>hq x (List.mem_cons_of_mem _ hx)) h4]
/-- How much a path takes. -/
def kO(p:List a7):Nat:=(p.map λs=>s.length+30).sum
theorem Fp(s:a7)(p:List a7):kO (s::p)=s.length+30+kO p:=by simp[kO]
theorem XQ(p:List a7):p.length≤kO p:=by
 induction p with
 |nil=>exact iv _
 |cons s p ih=>rw[Fp,eF];omega
theorem a3N{p:List a7}{s:a7}(h:s∈p):s.length≤kO p:=by
 induction p with
 |nil=>cases h
 |cons t p ih=>
  rw[Fp];rcases List.mem_cons.1 h with rfl|h
  ·omega
  ·have:=ih h;omega
theorem aha(p:List a7)(k:Nat):kO (p.take k)≤kO p:=by
 induction p generalizing k with
 |nil=>simp
 |cons s p ih=>
  cases k with
  |zero=>simp[kO]
  |succ k=>rw[List.take_succ_cons,Fp,Fp];have:=ih k;omega
theorem ahb(m:Nat)(path:List a7)(uz:path.length<1000000000000):∀(kk i:Nat)(acc:a7),path.length-i<kk→i≤path.length→acc.length+kO (path.drop i)<1000000000000→
   Hx m path kk acc (i:Int)=some (acc++mV (path.drop i)):=by
 intro kk
 induction kk with
 |zero=>intro i acc h;omega
 |succ kk ih=>
  intro i acc hk hi hs;rw[Hx];by_cases h:i<path.length
  ·have hd:=pq h;have hg:gi path (i:Int)=path[i]:=j6 path i h;have e:path.drop i=path[i]::path.drop (i+1):=hd;rw[e,Fp]at hs;have ajR:=a3I 20 path[i].length;have hp:=XQ path;have hI:B8 (ln path[i])=some (my 20 path[i].length):=by
    unfold B8;rw[bP (by unfold ln;omega),Jd,show decide (ln path[i]<0)=false from du (by unfold ln;omega),aX];rfl
   have hl2:=XQ (path.drop (i+1));rw[ie h,bf,fy h,hg,hI,aW,bP (by simp only[ln,eF,fY];omega),bP (by simp only[ln,eU,eF,fY];omega),bP (by simp only[ln,eU,eF,fY];omega),
    bX (by omega),ih (i+1) _ (by omega) (by omega) (by simp only[eU,eF,fY];omega),e,Ma]
   simp
  ·have he:i=path.length:=by omega
   subst he;rw[gJ (cZ _),aX,List.drop_length];simp[mV]
theorem XR(m:Nat)(path:List a7)(hs:kO path<1000000000000)(hm:path.length<m):yE m path=some (mV path):=by
 have:=ahb m path (by have:=XQ path;omega) m 0 [] (by omega) (iv _) (by simpa using hs);rw[yE];have e:Hx m path m [] 0=some (mV path):=this;rw[e];rfl
abbrev SZ:Nat:=1000000000
abbrev LN:Nat:=1090000
def en:Nat→LP→Mi
 |_,[]=>[]
 |i,p::r=>(mV p,(i:Int))::en (i+1) r
theorem ahc:∀(a:LP)(i:Nat)(p:List a7),en i (a++[p])=en i a++[(mV p,((i+a.length:Nat):Int))]:=by
 intro a
 induction a with
 |nil=>intro i p;rfl
 |cons q a ih=>intro i p;rw[List.cons_append,en,en,ih,List.cons_append,eF,show i+1+a.length=i+(a.length+1) by omega]
abbrev Ok(p:List a7):Prop:=kO p<SZ∧p.length<LN
theorem Ok.key{p q:List a7}(hp:Ok p)(hq:Ok q)(h:mV p=mV q):p=q:=
 ah9 p q (λs hs=>by have:=a3N hs;have hp:=hp.1;unfold SZ at hp;have:(1000000000:Nat)<10^20:=(by decide);omega) (λs hs=>by have:=a3N hs;have hq:=hq.1;unfold SZ at hq;have:(1000000000:Nat)<10^20:=(by decide);omega) h
theorem a3O{p q:List a7}(hp:Ok p)(hq:Ok q):(mV p==mV q)=decide (p=q):=by
 by_cases h:p=q
 ·rw[h,beq_self_eq_true,eR rfl]
 ·rw[vb.2 (λe=>h (hp.key hq e)),du h]
theorem ahd:∀(ps:LP)(i:Nat)(q:List a7),(∀p∈ps,Ok p)→Ok q→rf (en i ps) (mV q)=decide (q∈ps):=by
 intro ps
 induction ps with
 |nil=>intro i q h hq;rfl
 |cons p r ih=>
  intro i q h hq;rw[en,rf,ih (i+1) q (λx hx=>h x (List.mem_cons_of_mem _ hx)) hq,a3O hq (h p (List.mem_cons_self ..))];by_cases e:q=p<;>simp[e]
theorem a3P:∀(ps:LP)(i:Nat)(q:List a7),(∀p∈ps,Ok p)→Ok q→q∈ps→sv (en i ps) (mV q)=((i+ps.idxOf q:Nat):Int):=by
 intro ps
 induction ps with
 |nil=>intro i q h hq hm;cases hm
 |cons p r ih=>
  intro i q h hq hm;rw[en,sv,a3O hq (h p (List.mem_cons_self ..)),List.idxOf_cons];by_cases e:q=p
  ·subst e;rw[eR rfl,bf,beq_self_eq_true];simp
  ·rw[du e,aX,ih (i+1) q (λx hx=>h x (List.mem_cons_of_mem _ hx)) hq ((List.mem_cons.1 hm).resolve_left e),show(p==q)=false from vb.2 (λx=>e x.symm),aX];congr 1;omega
structure Tv(sn:Mi)(ps:LP):Prop where
 eq:sn=en 0 ps
 nd:ps.Nodup
 ne:∀p∈ps,p≠[]
 pre:∀p∈ps,∀k,0<k→k≤p.length→p.take k∈ps
 sz:∀p∈ps,Ok p
theorem Ok.take{p:List a7}(h:Ok p)(k:Nat):Ok (p.take k):=⟨Nat.lt_of_le_of_lt (aha p k) h.1,by rw[List.length_take];have:=h.2;omega⟩
theorem Ok.len{p:List a7}(h:Ok p):p.length<LN:=h.2
theorem XS(p:List a7)(k:Nat):fE p (0:Int) (k:Int)=p.take k:=by
 rw[fE];simp
theorem Tv.nil:Tv [] []:=⟨rfl,List.nodup_nil,(λ_ h=>by cases h),(λ_ h=>by cases h),(λ_ h=>by cases h)⟩
theorem ahe(m:Nat)(path:List a7)(hp:Ok path)(hm:LN<m):∀(kk i:Nat)(sn:Mi)(ps:LP),path.length-i<kk→i≤path.length→Tv sn ps→ps.length+(path.length-i)<SZ→(∀k,0<k→k≤i→path.take k∈ps)→
   ∃t gD,Lq m path kk (i:Int) ps sn=some (ps++t,gD)∧Tv gD (ps++t)∧(∀c,(∀k,0<k→k≤c→path.take k∈ps)→t.length≤path.length-max i c)∧∀k,0<k→k≤path.length→path.take k∈ps++t:=by
 intro kk
 induction kk with
 |zero=>intro i sn ps h;omega
 |succ kk ih=>
  intro i sn ps hk hi hT hs Mb;rw[Lq];have hl:=hp.len;by_cases h:i<path.length
  ·have hq:=hp.take (i+1);have ahf:yE m (path.take (i+1))=some (mV (path.take (i+1))):=XR m _ (by have:=hq.1;unfold SZ at this;omega) (by have:=hq.len;omega);rw[ie h,bf,bX (by unfold LN at hl;omega),bP (by unfold ln;omega),XS,lt_eq,ahf,aW,lt_eq,lt_eq,hT.eq,ahd _ _ _ hT.sz hq];by_cases r8:path.take (i+1)∈ps
   ·rw[eR r8,oF,aX,aW];dsimp only;rw[←hT.eq];obtain⟨t,gD,e,h1,h2,h3⟩:=ih (i+1) sn ps (by omega) (by omega) hT (by omega) (λk g1 g2=>by
     by_cases hk:k=i+1
     ·rw[hk];exact r8
     ·exact Mb k g1 (by omega))
    exact⟨t,gD,e,h1,(λc hc=>by
     have:=h2 (max c (i+1)) (λk g1 g2=>by
      by_cases hk:k≤c
      ·exact hc k g1 hk
      ·by_cases yY:k=i+1
       ·rw[yY];exact r8
       ·exact Mb k g1 (by omega))
     omega),h3⟩
   ·have xI:Lp (path.take (i+1))=some (path.take (i+1)):=by
     rw[Lp,bP (by have:=hq.len;unfold LN at this;simp only[ln,fY];omega),lt_eq];rfl
    rw[du r8,vc,bf,bP rfl,lt_eq,xI,aW,bP (by unfold SZ at hs;simp only[ln,eF,fY];omega),lt_eq,aW];dsimp only;have Df:Tv (en 0 ps++[(mV (path.take (i+1)),ln ps)]) (ps++[path.take (i+1)]):=by
     refine⟨?_,?_,?_,?_,?_⟩
     ·rw[ahc,Nat.zero_add];rfl
     ·rw[List.nodup_append];exact⟨hT.nd,by simp,λa ha b hb e=>r8 (by rw[List.mem_singleton]at hb;rw[←hb,←e];exact ha)⟩
     ·intro p Mc;rcases List.mem_append.1 Mc with h'|h'
      ·exact hT.ne p h'
      ·rw[List.mem_singleton]at h';rw[h'];intro e;have:=congrArg List.length e;rw[List.length_take,fY]at this;omega
     ·intro p Mc k g1 g2;rcases List.mem_append.1 Mc with h'|h'
      ·exact List.mem_append.2 (.inl (hT.pre p h' k g1 g2))
      ·rw[List.mem_singleton]at h';subst h';rw[List.length_take]at g2;rw[List.take_take,Nat.min_eq_left (by omega)];by_cases hk:k=i+1
       ·rw[hk];exact List.mem_append.2 (.inr (List.mem_singleton.2 rfl))
       ·exact List.mem_append.2 (.inl (Mb k g1 (by omega)))
     ·intro p Mc;rcases List.mem_append.1 Mc with h'|h'
      ·exact hT.sz p h'
      ·rw[List.mem_singleton]at h';rw[h'];exact hq
    obtain⟨t,gD,e,h1,h2,h3⟩:=ih (i+1) _ _ (by omega) (by omega) Df (by rw[eU,List.length_singleton];omega) (λk g1 g2=>by
     by_cases hk:k=i+1
     ·rw[hk];exact List.mem_append.2 (.inr (List.mem_singleton.2 rfl))
     ·exact List.mem_append.2 (.inl (Mb k g1 (by omega))))
    rw[xQ]at e h1 h3;exact⟨[path.take (i+1)]++t,gD,e,h1,(λc hc=>by
     have hci:c≤i:=by
      rcases Nat.lt_or_ge i c with g|g
      ·exact absurd (hc (i+1) (by omega) (by omega)) r8
      ·exact g
     have:=h2 0 (λk g1 g2=>by omega);rw[eU,List.length_singleton];omega),h3⟩
  ·have he:i=path.length:=by omega
   subst he;rw[gJ (cZ _),aX];exact⟨[],sn,by rw[List.append_nil],by rw[List.append_nil];exact hT,(λc hc=>by simp),by rw[List.append_nil];exact Mb⟩
theorem a3Q(m:Nat){path:List a7}(hp:Ok path)(hm:LN<m){sn:Mi}{ps:LP}(st:List bB)(hT:Tv sn ps)(hs:ps.length+path.length<SZ):
   ∃t gD,Hy m path sn ps st=some (ps++t,gD)∧Tv gD (ps++t)∧(∀c,(∀k,0<k→k≤c→path.take k∈ps)→t.length≤path.length-c)∧∀k,0<k→k≤path.length→path.take k∈ps++t:=by
 have hl:=hp.len;obtain⟨t,gD,e,h1,h2,h3⟩:=ahe m path hp hm m 0 sn ps (by omega) (iv _) hT (by omega) (λk g1 g2=>by omega);exact⟨t,gD,e,h1,(λc hc=>by have:=h2 c hc;omega),h3⟩
theorem a3R(m:Nat)(a b:List a7)(h:a.length+b.length<SZ)(hm:3<m):EO m ([a,b]:List (List a7))=some (a++b):=by
 obtain⟨k,rfl⟩:∃k,m=k+3:=⟨m-3,by omega⟩;have w:∀n:Nat,n<SZ→J (n:Int)=(n:Int):=λn hn=>by unfold SZ at hn;exact XN (by omega)
 unfold SZ at h;have e1:EN (k+3) [a,b] (k+3) 0 0=some ((a.length+b.length:Nat):Int):=by
  have x1:J ((0:Int)+ln (gi [a,b] 0))=(a.length:Int):=by show J ((0:Int)+(a.length:Int))=_;rw[Int.zero_add,XN (by omega)]
  have x2:J ((a.length:Int)+ln (gi [a,b] 1))=((a.length+b.length:Nat):Int):=by show J ((a.length:Int)+(b.length:Int))=_;rw[AM (by omega)]
  rw[EN,show decide ((0:Int)<ln [a,b])=true from rfl,bf,bP (by show(0:Int)≤0∧(0:Int)<((2:Nat):Int);omega),x1,lt_eq,show decide ((a.length:Int)<0)=false from du (by omega),aX,
   EN,show J ((0:Int)+1)=1 from by decide,show decide ((1:Int)<ln [a,b])=true from rfl,bf,bP (by show(0:Int)≤1∧(1:Int)<((2:Nat):Int);omega),x2,lt_eq,show decide (((a.length+b.length:Nat):Int)<0)=false from du (by omega),aX,
   EN,show J ((1:Int)+1)=2 from by decide,show decide ((2:Int)<ln [a,b])=false from rfl,aX]
 have e2:Ck (k+3) [a,b] (k+3) [] 0=some (a++b):=by
  rw[Ck,show decide ((0:Int)<ln [a,b])=true from rfl,bf,bP (by show(0:Int)≤0∧(0:Int)<((2:Nat):Int);omega),bP (by show((0:Nat):Int)+(a.length:Int)≤_;omega),lt_eq,
   Ck,show J ((0:Int)+1)=1 from by decide,show decide ((1:Int)<ln [a,b])=true from rfl,bf,bP (by show(0:Int)≤1∧(1:Int)<((2:Nat):Int);omega),bP (by show(((([]:List a7)++a).length:Nat):Int)+(b.length:Int)≤_;rw[List.nil_append];omega),lt_eq,
   Ck,show J ((1:Int)+1)=2 from by decide,show decide ((2:Int)<ln [a,b])=false from rfl,aX]
  rfl
 rw[EO,e1,aW,Pe,bP (by omega),lt_eq,aW];show Option.bind (Ck (k+3) [a,b] (k+3) [] 0) _=_;rw[e2,aW]
def lx:List Nat→List Nat→Bool
 |[],[]=>false
 |[],_::_=>true
 |_::_,[]=>false
 |x::xs,y::ys=>decide (x<y)||x==y&&lx xs ys
theorem XT:∀a,lx a a=false
 |[]=>rfl
 |x::a=>by rw[lx,XT a];simp
theorem a3S:∀a b,lx a b=true→lx b a=false
 |[],[],h=>by cases h
 |[],_::_,_=>rfl
 |_::_,[],h=>by cases h
 |x::a,y::b,h=>by
  rw[lx]at h⊢;simp only[Bool.or_eq_true,decide_eq_true_eq,Bool.and_eq_true,beq_iff_eq]at h;rcases h with h|⟨rfl,h⟩
  ·rw[du (by omega),vb.2 (by omega)];rfl
  ·rw[a3S a b h];simp
theorem a3T:∀a b c,lx a b=false→lx b c=false→lx a c=false
 |[],[],_,_,h=>h
 |[],_::_,_,h,_=>by cases h
 |_::_,_,[],_,_=>rfl
 |x::a,[],z::c,_,h=>by cases h
 |x::a,y::b,z::c,h,h'=>by
  rw[lx]at h h'⊢;simp only[a0h,decide_eq_false_iff_not,Bool.and_eq_false_imp,beq_iff_eq]at h h'⊢;refine⟨by omega,λe=>?_⟩;exact a3T a b c (h.2 (by omega)) (h'.2 (by omega))
theorem a3U:∀a b,lx a b=false→lx b a=false→a=b
 |[],[],_,_=>rfl
 |[],_::_,h,_=>by cases h
 |_::_,[],_,h=>by cases h
 |x::a,y::b,h,h'=>by
  rw[lx]at h h';simp only[a0h,decide_eq_false_iff_not,Bool.and_eq_false_imp,beq_iff_eq]at h h';have e:x=y:=by omega
  rw[e,a3U a b (h.2 e) (h'.2 e.symm)]
/-- Where the parts of a path were seen, from part 'i' on; then what is greater than all. -/
def sg(ps:LP)(a:List a7):Nat→Nat→List Nat
 |0,_=>[ps.length]
 |k+1,i=>ps.idxOf (a.take (i+1))::sg ps a k (i+1)
def sgm(ps:LP)(a:List a7):List Nat:=sg ps a a.length 0
def ur(ps:LP)(a b:List a7):Nat→Nat→Int
 |0,_=>(b.length:Int)-(a.length:Int)
 |k+1,i=>cond (gi a (i:Int)==gi b (i:Int)) (ur ps a b k (i+1)) ((ps.idxOf (a.take (i+1)):Int)-(ps.idxOf (b.take (i+1)):Int))
def us(ps:LP)(a b:List a7):Int:=ur ps a b (min a.length b.length) 0
theorem a3V{a b:List a7}{i:Nat}(h:a.take i=b.take i)(ha:i<a.length)(hb:i<b.length):(gi a (i:Int)==gi b (i:Int))=decide (a.take (i+1)=b.take (i+1)):=by
 have e1:a.take (i+1)=a.take i++[a[i]]:=List.take_succ_eq_append_getElem ha;have e2:b.take (i+1)=b.take i++[b[i]]:=List.take_succ_eq_append_getElem hb;rw[e1,e2,h,j6 a i ha,j6 b i hb];by_cases e:a[i]=b[i]
 ·rw[e];simp
 ·rw[vb.2 e,du (λx=>e (List.cons.inj (List.append_cancel_left x)).1)]
theorem a3W{ps:LP}{x y:List a7}(hx:x∈ps)(h:ps.idxOf x=ps.idxOf y):x=y:=by
 have h1:=List.idxOf_lt_length_of_mem hx;have e1:ps[ps.idxOf x]=x:=List.getElem_idxOf h1;have h2:ps.idxOf y<ps.length:=by rw[←h];exact h1
 have e2:ps[ps.idxOf y]=y:=List.getElem_idxOf h2;rw[←e1,←e2];simp only[h]
theorem ahg{sn:Mi}{ps:LP}(hT:Tv sn ps){a b:List a7}(ha:a∈ps)(hb:b∈ps):∀(k i:Nat),i+k=min a.length b.length→a.take i=b.take i→
   decide (ur ps a b k i<0)=lx (sg ps a (a.length-i) i) (sg ps b (b.length-i) i):=by
 intro k
 induction k with
 |zero=>
  intro i hk ht;rw[ur];by_cases h1:i<a.length
  ·obtain⟨n,hn⟩:∃n,a.length-i=n+1:=⟨a.length-i-1,by omega⟩;rw[hn,show b.length-i=0 by omega,sg,sg,lx];have:=List.idxOf_lt_length_of_mem (hT.pre a ha (i+1) (by omega) (by omega));rw[eR (by omega),eR this];rfl
  ·by_cases h2:i<b.length
   ·obtain⟨n,hn⟩:∃n,b.length-i=n+1:=⟨b.length-i-1,by omega⟩;rw[hn,show a.length-i=0 by omega,sg,sg,lx];have:=List.idxOf_lt_length_of_mem (hT.pre b hb (i+1) (by omega) (by omega));rw[du (by omega),du (by omega),vb.2 (by omega)];rfl
   ·rw[show a.length-i=0 by omega,show b.length-i=0 by omega,sg,sg,XT,du (by omega)]
 |succ k ih=>
  intro i hk ht;obtain⟨n,hn⟩:∃n,a.length-i=n+1:=⟨a.length-i-1,by omega⟩;obtain⟨n',MV⟩:∃n,b.length-i=n+1:=⟨b.length-i-1,by omega⟩;rw[ur,hn,MV,sg,sg,lx,a3V ht (by omega) (by omega)];by_cases e:a.take (i+1)=b.take (i+1)
  ·rw[eR e,bf,ih (i+1) (by omega) e,e,show a.length-(i+1)=n by omega,show b.length-(i+1)=n' by omega,du (by omega),beq_self_eq_true];rfl
  ·have iJ:ps.idxOf (a.take (i+1))≠ps.idxOf (b.take (i+1)):=λx=>e (a3W (hT.pre a ha (i+1) (by omega) (by omega)) x);rw[du e,aX,vb.2 iJ,Bool.false_and,Bool.or_false];by_cases dJ:ps.idxOf (a.take (i+1))<ps.idxOf (b.take (i+1))
   ·rw[eR dJ,eR (by omega)]
   ·rw[du dJ,du (by omega)]
theorem CY{sn:Mi}{ps:LP}(hT:Tv sn ps){a b:List a7}(ha:a∈ps)(hb:b∈ps):Lt (us ps) a b=lx (sgm ps a) (sgm ps b):=
 ahg hT ha hb _ 0 (by omega) rfl
theorem ahh{sn:Mi}{ps:LP}(hT:Tv sn ps):Is (· ∈ps) (Lt (us ps)) where
 ir:=λx hx=>by rw[CY hT hx hx];exact XT _
 Fj:=λx y hx hy h=>by rw[CY hT hx hy]at h;rw[CY hT hy hx];exact a3S _ _ h
 nt:=λx y z hx hy hz h h'=>by
  rw[CY hT hx hy]at h;rw[CY hT hy hz]at h';rw[CY hT hx hz];exact a3T _ _ _ h h'
theorem ahi(m:Nat){sn:Mi}{ps:LP}(hT:Tv sn ps)(hm:LN<m)(CZ:ps.length<SZ){a b:List a7}(ha:a∈ps)(hb:b∈ps):∀(k kk i:Nat),i+k=min a.length b.length→k<kk→
   ∃z,ER m a b sn kk (i:Int)=some z∧dk z (λ_=>some (J (ln b-ln a)))=some (ur ps a b k i):=by
 have oa:=hT.sz a ha;have ob:=hT.sz b hb;have la:=oa.len;have lb:=ob.len;unfold LN at la lb;unfold SZ at CZ;have a3X:(if ln b<ln a then ln b else ln a)=((min a.length b.length:Nat):Int):=by
  unfold ln;by_cases h:b.length<a.length
  ·rw[if_pos (by omega)];omega
  ·rw[if_neg (by omega)];omega
 intro k
 induction k with
 |zero=>
  intro kk i hi hk;obtain⟨kk,rfl⟩:∃q,kk=q+1:=⟨kk-1,by omega⟩;rw[ER,a3X,show decide ((i:Int)<((min a.length b.length:Nat):Int))=false from du (by omega),lt_eq,aX];refine⟨_,rfl,?_⟩;show some (J ((b.length:Int)-(a.length:Int)))=some (ur ps a b 0 i);rw[ur,nB (by omega) (by omega)]
 |succ k ih=>
  intro kk i hi hk;obtain⟨kk,rfl⟩:∃q,kk=q+1:=⟨kk-1,by omega⟩;have h1:i<a.length:=by omega
  have h2:i<b.length:=by omega
  rw[ER,a3X,show decide ((i:Int)<((min a.length b.length:Nat):Int))=true from eR (by omega),lt_eq,bf,fy h1,fy h2,ur];cases gi a (i:Int)==gi b (i:Int)
  ·have ka:yE m (a.take (i+1))=some (mV (a.take (i+1))):=XR m _ (by have:=(oa.take (i+1)).1;unfold SZ at this;omega) (by have:=(oa.take (i+1)).len;omega);have kb:yE m (b.take (i+1))=some (mV (b.take (i+1))):=XR m _ (by have:=(ob.take (i+1)).1;unfold SZ at this;omega) (by have:=(ob.take (i+1)).len;omega);have ma:=hT.pre a ha (i+1) (by omega) (by omega);have mb:=hT.pre b hb (i+1) (by omega) (by omega);have ia:=List.idxOf_lt_length_of_mem ma;have ib:=List.idxOf_lt_length_of_mem mb;rw[vc,bf,bX (by omega),bP (by unfold ln;omega),XS,lt_eq,ka,aW,lt_eq,lt_eq,bP (by unfold ln;omega),XS,lt_eq,kb,aW,lt_eq,lt_eq,hT.eq,a3P _ _ _ hT.sz (oa.take _) ma,a3P _ _ _ hT.sz (ob.take _) mb];refine⟨_,rfl,?_⟩;show some (J (((0+ps.idxOf (a.take (i+1)):Nat):Int)-((0+ps.idxOf (b.take (i+1)):Nat):Int)))=_;rw[nB (by omega) (by omega),aX,Nat.zero_add,Nat.zero_add]
  ·rw[oF,aX,bf,bX (by omega)];exact ih kk (i+1) (by omega) (by omega)
theorem ahj(m:Nat){sn:Mi}{ps:LP}(hT:Tv sn ps)(hm:LN<m)(CZ:ps.length<SZ)(pp:LP)(st:List bB):Cm m sn pp st (· ∈ps) (us ps):=λa b ha hb=>by
 have la:=(hT.sz a ha).len;obtain⟨z,e,h⟩:=ahi m hT hm CZ ha hb (min a.length b.length) m 0 (by omega) (by omega);have e':ER m a b sn m 0=some z:=e;rw[ot,e',aW];exact h
/-- The order: all paths, each before what follows it in the order. -/
theorem ahk(m:Nat){sn:Mi}{ps:LP}(hT:Tv sn ps)(hm:LN<m)(CZ:ps.length<16777216)(M9:ps.length+6<m)(st:List bB):
   ∃l,I8 m sn ps st=some l∧l.Perm ps∧∀i j,i<j→j<l.length→Lt (us ps) (gx l j) (gx l i)=false:=by
 have xI:LA ps=some ps:=by
  rw[LA,bP (by simp only[ln,fY];omega),lt_eq];rfl
 obtain⟨l,e,h1,h2⟩:=ah6 m (sn:=sn) (ps:=ps) (st:=st) (ahj m hT hm (by unfold SZ;omega) ps st) (ahh hT) (l:=ps) CZ M9 (λx hx=>hx);exact⟨l,by rw[I8,xI,aW,e];rfl,h1,h2⟩
theorem a3Y(m:Nat)(a b:List a7)(h:a.length=b.length)(hl:a.length<LN):∀(kk i:Nat),a.length-i<kk→i≤a.length→a.take i=b.take i→
   ∃z,F8 m a b kk (i:Int)=some z∧dk z (λ_=>some true)=some (decide (a=b)):=by
 unfold LN at hl;intro kk
 induction kk with
 |zero=>intro i h;omega
 |succ kk ih=>
  intro i hk hi ht;rw[F8];by_cases lg:i<a.length
  ·rw[ie (by omega),bf,fy lg,fy (by omega),a3V ht lg (by omega)];by_cases e:a.take (i+1)=b.take (i+1)
   ·rw[eR e,oF,aX,bX (by omega)];exact ih (i+1) (by omega) (by omega) e
   ·rw[du e,vc,bf];exact⟨_,rfl,by rw[du (λx=>e (by rw[x]))];rfl⟩
  ·rw[gJ (by omega),aX];rw[List.take_of_length_le (by omega),List.take_of_length_le (by omega)]at ht;exact⟨_,rfl,by rw[eR ht];rfl⟩
theorem ahl(m:Nat){a b:List a7}(ha:a.length<LN)(hb:b.length<LN)(hm:LN<m):AF m [a] [b]=some (decide (a=b)):=by
 obtain⟨k,rfl⟩:∃k,m=k+2:=⟨m-2,by unfold LN at hm;omega⟩;rw[AF,show(ln [a] !=ln [b])=false from rfl,aX,AE,show decide ((0:Int)<ln [a])=true from rfl,bf,bP (by show(0:Int)≤0∧(0:Int)<((1:Nat):Int);omega),bP (by show(0:Int)≤0∧(0:Int)<((1:Nat):Int);omega),show gi [a] 0=a from rfl,show gi [b] 0=b from rfl];by_cases h:a.length=b.length
 ·rw[show(ln a !=ln b)=false from by unfold ln;rw[h];exact bne_self_eq_false _,aX];obtain⟨z,e,hz⟩:=a3Y (k+2) a b h ha (k+2) 0 (by unfold LN at ha hm;omega) (iv _) rfl;have e':F8 (k+2) a b (k+2) 0=some z:=e;rw[Il,show decide (ln a<ln b)=false from du (by unfold ln;omega),aX,e',aW,hz,aW,lt_eq,aX];cases decide (a=b)
  ·rfl
  ·rw[oF,aX,show J ((0:Int)+1)=1 from by decide,AE,show decide ((1:Int)<ln [a])=false from rfl,aX];rfl
 ·rw[show(ln a !=ln b)=true from bne_iff_ne.2 (by unfold ln;omega),bf,du (λx=>h (by rw[x]))];rfl
theorem ahm(m:Nat)(l:LP)(s:List a7)(hs:s.length<LN)(hA:∀x∈l,x.length<LN)(hl:l.length<SZ)(XU:l.length<m)(hm:LN<m)(r8:s∈l):∀(kk i:Nat),l.length-i<kk→i≤l.idxOf s→
   Im m l s kk (i:Int)=some (.inl ((l.idxOf s:Nat):Int)):=by
 have hx:=List.idxOf_lt_length_of_mem r8;unfold SZ at hl;intro kk
 induction kk with
 |zero=>intro i h;omega
 |succ kk ih=>
  intro i hk hi;have QM:i<l.length:=by omega
  rw[Im,ie QM,bf,fy QM,j6 l i QM,ahl m (hA _ (List.getElem_mem QM)) hs hm,aW];by_cases e:l[i]=s
  ·rw[eR e,bf];have:l.idxOf s≤i:=by
    rcases Nat.lt_or_ge i (l.idxOf s)with h|h
    ·exact absurd e (by simpa using List.not_of_lt_findIdx (p:=(· ==s)) (xs:=l) h)
    ·exact h
   rw[show i=l.idxOf s by omega]
  ·rw[du e,aX,bX (by omega)];have iJ:i≠l.idxOf s:=λx=>e (by have:=List.getElem_idxOf hx;simp only[←x]at this;exact this);exact ih (i+1) (by omega) (by omega)
theorem ahn(m:Nat){l:LP}{s:List a7}(hs:s.length<LN)(hA:∀x∈l,x.length<LN)(hl:l.length<SZ)(XU:l.length<m)(hm:LN<m)(r8:s∈l):LX m l s=some ((l.idxOf s:Nat):Int):=by
 have:=ahm m l s hs hA hl XU hm r8 m 0 (by omega) (iv _);have e:Im m l s m 0=some (.inl ((l.idxOf s:Nat):Int)):=this;rw[LX,e];rfl
section
variable (m:Nat) {sn:Mi} {ps l:LP} (hT:Tv sn ps) (hm:LN<m) (CZ:ps.length<16777216) (M9:ps.length<m) (hp:l.Perm ps) (hs:∀i j,i<j→j<l.length→Lt (us ps) (gx l j) (gx l i)=false)
include hT hm CZ hp hs
include M9
end
theorem XV(x:bA):zR x=mQ x.dF+sa x.cP+zC x.aT+jX x.bI+dU x.bo+6:=by obtain⟨a,b,c,d,e,f⟩:=x;simp only[zR,bA.dF,bA.cP,bA.aT,bA.bI,bA.bo];omega
theorem aho{l:List bA}{i:Nat}(h:i<l.length):dU (l.drop i)=zR l[i]+dU (l.drop (i+1)):=by rw[pq h,dU]
theorem ahp{l:List (List a7)}{i:Nat}(h:i<l.length):jX (l.drop i)=tp l[i]+jX (l.drop (i+1)):=by rw[pq h,jX]
theorem XW:∀l:List (List a7),l.length≤jX l
 |[]=>iv _
 |v::r=>by have:=XW r;rw[jX,eF];unfold tp;omega
theorem XX:∀l:List bA,l.length≤dU l
 |[]=>iv _
 |v::r=>by have:=XX r;have:=XV v;rw[dU,eF];omega
theorem a3Z(p:List a7):p.length+1≤tp p:=by
 unfold tp
 induction p with
 |nil=>simp
 |cons s p ih=>rw[List.map_cons,List.sum_cons,eF];omega
theorem a41(p:List a7):kO p≤31*tp p:=by
 unfold tp
 induction p with
 |nil=>simp[kO]
 |cons s p ih=>rw[Fp,List.map_cons,List.sum_cons];omega
theorem XY(a b:List a7):kO (a++b)=kO a+kO b:=by simp[kO]
abbrev Pf(pf:List a7)(ps:LP):Prop:=∀k,0<k→k≤pf.length→pf.take k∈ps
theorem Pf.app{pf:List a7}{ps:LP}(h:Pf pf ps)(t:LP):Pf pf (ps++t):=λk h1 h2=>List.mem_append.2 (.inl (h k h1 h2))
/-- How a part of the walk turns the state: within 'n'. -/
structure nw(n:Nat)(ps:LP)(st:List bB)(b:Nat)(ou:LP)(pg:List bB)(gD:Mi)(b':Nat):Prop where
 p:∃t,ou=ps++t∧t.length≤n
 s:∃u,pg=st++u∧u.length≤n
 b1:b≤b'
 b2:b'≤b+n
 tv:Tv gD ou
theorem nw.tr{n n':Nat}{ps pH tu:LP}{st xB gX:List bB}{qU ov:Mi}{b b1 b2:Nat}(h:nw n ps st b pH xB qU b1)(h':nw n' pH xB b1 tu gX ov b2):nw (n+n') ps st b tu gX ov b2:=by
 obtain⟨t,e1,l1⟩:=h.p;obtain⟨u,e2,l2⟩:=h.s;obtain⟨t',e3,l3⟩:=h'.p;obtain⟨u',e4,l4⟩:=h'.s;refine⟨⟨t++t',by rw[e3,e1,xQ],by rw[eU];omega⟩,⟨u++u',by rw[e4,e2,xQ],by rw[eU];omega⟩,?_,?_,h'.tv⟩
 ·have:=h.b1;have:=h'.b1;omega
 ·have:=h.b2;have:=h'.b2;omega
theorem nw.up{n n':Nat}{ps pH:LP}{st xB:List bB}{qU:Mi}{b b1:Nat}(h:nw n ps st b pH xB qU b1)(hn:n≤n'):nw n' ps st b pH xB qU b1:=by
 obtain⟨t,e1,l1⟩:=h.p;obtain⟨u,e2,l2⟩:=h.s;exact⟨⟨t,e1,by omega⟩,⟨u,e2,by omega⟩,h.b1,by have:=h.b2;omega,h.tv⟩
theorem nw.id{ps:LP}{st:List bB}{sn:Mi}{b:Nat}(h:Tv sn ps)(n:Nat):nw n ps st b ps st sn b:=⟨⟨[],by rw[List.append_nil],by simp⟩,⟨[],by rw[List.append_nil],by simp⟩,cZ _,by omega,h⟩
theorem ahq(m:Nat)(hm:LN<m)(rules:List bA)(pf:List a7)(i:Nat)(st:List bB)(uz:pf.length+jX (gi rules (i:Int)).bI<LN)(Md:kO pf+31*jX (gi rules (i:Int)).bI<SZ):∀(kk j:Nat)(sn:Mi)(ps:LP),(gi rules (i:Int)).bI.length-j<kk→j≤(gi rules (i:Int)).bI.length→Tv sn ps→Pf pf ps→ps.length+jX ((gi rules (i:Int)).bI.drop j)<16777216→
   ∃t gD,xt m rules pf (i:Int) st kk (j:Int) ps sn=some (gD,ps++t)∧Tv gD (ps++t)∧t.length≤jX ((gi rules (i:Int)).bI.drop j):=by
 generalize hN:(gi rules (i:Int)).bI=N at uz Md⊢;have hlen:=XW N;intro kk
 induction kk with
 |zero=>intro j sn ps h;omega
 |succ kk ih=>
  intro j sn ps hk hj hT hP hs;rw[xt,hN,lt_eq];by_cases h:j<N.length
  ·have hz:tp N[j]≤jX N:=by
    have:∀l:List (List a7),∀x∈l,tp x≤jX l:=by
     intro l
     induction l with
     |nil=>intro x hx;cases hx
     |cons y l ih=>
      intro x hx;rw[jX];rcases List.mem_cons.1 hx with rfl|hx
      ·omega
      ·have:=ih x hx;omega
    exact this N _ (List.getElem_mem h)
   have hl:=a3Z N[j];have CZ:=a41 N[j];have hd:=ahp h;have ok:Ok (pf++N[j]):=⟨by rw[XY];omega,by rw[eU];omega⟩;unfold LN at uz hm;rw[ie h,bf,fy h,j6 N j h,a3R m pf N[j] (by unfold SZ;omega) (by omega),aW];obtain⟨t,gD,e,h1,h2,h3⟩:=a3Q m ok (by unfold LN;omega) st hT (by rw[eU];unfold SZ;omega);have ht:=h2 pf.length (λk g1 g2=>by rw[List.take_append_of_le_length g2];exact hP k g1 g2);rw[eU]at ht;rw[e,aW,bX (by omega)];dsimp only;obtain⟨t',ov,e2,h4,h5⟩:=ih (j+1) gD (ps++t) (by omega) (by omega) h1 (hP.app t) (by rw[eU];omega);exact⟨t++t',ov,by rw[e2,xQ],by rw[←xQ];exact h4,by rw[eU];omega⟩
  ·rw[gJ (by omega),aX];exact⟨[],sn,by rw[List.append_nil],by rw[List.append_nil];exact hT,by simp⟩
theorem ahr(n:Nat)(h:n<1000000000):∃y:a7,B8 (n:Int)=some y∧y.length≤21:=by
 refine⟨my 20 n,?_,a3I 20 n⟩;unfold B8;rw[bP (by omega),Jd,show decide ((n:Int)<0)=false from du (by omega),aX];rfl
section
variable (m:Nat) (hm:LN<m) (wd:Int) (hh:∀r:bA,zR r≤1048576→∃b,Ae m r (jm.mk wd)=some b)
include hm hh
theorem ahs(rules:List bA)(src:Int)(pf:List a7)(rec:List bA→Int→List a7→Int→Mi→LP→List bB→Int→Option (LP×List bB×Mi×Int))(hz:dU rules≤1048576)(uz:pf.length+dU rules<LN)(Md:kO pf+31*dU rules<SZ)
   (Iv:∀(r:bA),r∈rules→∀(ph:List a7)(sn:Mi)(ps:LP)(st:List bB)(b:Nat),Tv sn ps→Pf ph ps→ph.length+dU r.bo<LN→kO ph+31*dU r.bo<SZ→ps.length+dU r.bo<16777216→st.length+dU r.bo<16777216→b+dU r.bo<16777216→
     ∃ou pg gD b',rec r.bo src ph wd sn ps st (b:Int)=some (ou,pg,gD,((b':Nat):Int))∧nw (dU r.bo) ps st b ou pg gD b'):
   ∀(kk i:Nat)(sn:Mi)(ps:LP)(st:List bB)(b:Nat),rules.length-i<kk→i≤rules.length→Tv sn ps→Pf pf ps→ps.length+dU (rules.drop i)<16777216→st.length+dU (rules.drop i)<16777216→b+dU (rules.drop i)<16777216→
     ∃ou pg gD b',yF m rules src pf wd rec kk (i:Int) ps st (b:Int) sn=some (ou,pg,gD,((b':Nat):Int))∧nw (dU (rules.drop i)) ps st b ou pg gD b':=by
 have hlen:=XX rules;unfold LN at uz hm;unfold SZ at Md;intro kk
 induction kk with
 |zero=>intro i sn ps st b h;omega
 |succ kk ih=>
  intro i sn ps st b hk hi hT hP h1 h2 h3;rw[yF];by_cases h:i<rules.length
  ·have hd:=aho h;have hr:gi rules (i:Int)=rules[i]:=j6 rules i h;have r8:rules[i]∈rules:=List.getElem_mem h;have xD:zR rules[i]≤dU rules:=by
    have:∀l:List bA,∀x∈l,zR x≤dU l:=by
     intro l
     induction l with
     |nil=>intro x hx;cases hx
     |cons y l ih=>
      intro x hx;rw[dU];rcases List.mem_cons.1 hx with rfl|hx
      ·omega
      ·have:=ih x hx;omega
    exact this rules _ r8
   have hza:=XV rules[i];obtain⟨iu,hy⟩:=hh rules[i] (by omega);rw[ie h,bf,fy h,hr,hy,aW]
   -- one rule: the new state
   suffices S:∃ou pg gD b' x y,(cond (!iu) (some (st,ps,(b:Int),st,sn,ps)) (Option.bind (
      cond (rules[i].an==1) (
      aH (ln st+ln ([bB.mk src pf rules[i]]:List bB)≤137438953472)<|
      lt (st++([bB.mk src pf rules[i]]:List bB)) λCl=>
      Option.bind (some (Cl,ps,(b:Int),Cl,sn,ps)) λPg=>some (.inl Pg)) (
      cond (rules[i].an==5) (
      Option.bind (xt m rules pf (i:Int) st m 0 ps sn) λ(xu:Mi×LP)=>
      Option.bind (some (st,xu.2,(b:Int),st,xu.1,xu.2)) λPh=>some (.inl Ph)) (
      cond (rules[i].an==4) (
      Option.bind (B8 (b:Int)) λAg=>
      aH (ln [0]+ln Ag≤9223372036854775807)<|
      Option.bind (
      cond (decide (0<ln rules[i].bI)) (
      aH (0≤(0:Int)∧(0:Int)<ln rules[i].bI)<|
      some (gi rules[i].bI (0:Int),(b:Int))) (
      some (([[0]++Ag]:List a7),J ((b:Int)+1)))) λ(kM:(List a7)×Int)=>
      Option.bind (EO m ([pf,kM.1]:List (List a7))) λCn=>
      Option.bind (Hy m Cn sn ps st) λHB=>
      some (.inr (Cn,HB.1,kM.2,HB.2))) (
      some (.inr (pf,ps,(b:Int),sn)))))) λ(z26:Sum ((List bB)×LP×Int×(List bB)×Mi×LP) ((List a7)×LP×Int×Mi))=>dk z26 λmo=>
      Option.bind (rec rules[i].bo src mo.1 wd mo.2.2.2 mo.2.1 st mo.2.2.1) λs0=>
      some (s0.2.1,s0.1,s0.2.2.2,st,s0.2.2.1,ps)))=some (pg,ou,((b':Nat):Int),x,gD,y)∧nw (zR rules[i]) ps st b ou pg gD b' by
    obtain⟨pH,xB,qU,b1,x,y,e,g⟩:=S;obtain⟨t,et,Iw⟩:=g.p;obtain⟨u,eu,lu⟩:=g.s;have MD:=g.b2;obtain⟨tu,gX,ov,b2,e2,g2⟩:=ih (i+1) qU pH xB b1 (by omega) (by omega) g.tv (by rw[et];exact hP.app t) (by rw[et,eU];omega) (by rw[eu,eU];omega) (by omega);refine⟨tu,gX,ov,b2,?_,by rw[hd];exact g.tr g2⟩;have e':=e;rw[e',aW,bX (by omega)];exact e2
   cases iu with
   |false=>exact⟨ps,st,sn,b,st,ps,rfl,nw.id hT _⟩
   |true=>
    rw[oF,aX];cases k1:rules[i].an==1 with
    |true=>
     rw[bf,bP (by simp only[ln,eF,fY];omega),lt_eq,aW,aW];exact⟨ps,st++[bB.mk src pf rules[i]],sn,b,_,_,rfl,⟨⟨[],by rw[List.append_nil],by simp⟩,⟨_,rfl,by simp;omega⟩,cZ _,by omega,hT⟩⟩
    |false=>
     rw[aX];cases k5:rules[i].an==5 with
     |true=>
      obtain⟨t,gD,e,g1,g2⟩:=ahq m (by unfold LN;omega) rules pf i st (by rw[hr];unfold LN;omega) (by rw[hr];unfold SZ;omega) m 0 sn ps (by rw[hr];have:=XW rules[i].bI;omega) (iv _) hT hP (by rw[hr,o5];omega);rw[hr,o5]at g2;have e':xt m rules pf (i:Int) st m 0 ps sn=some (gD,ps++t):=e;rw[bf,e',aW,aW,aW];exact⟨ps++t,st,gD,b,_,_,rfl,⟨⟨t,rfl,by omega⟩,⟨[],by rw[List.append_nil],by simp⟩,cZ _,by omega,g1⟩⟩
     |false=>
      rw[aX]
      -- what lies in it
      have inner:∀(ph:List a7)(qU:Mi)(pH:LP)(b1:Nat)(n:Nat),n+dU rules[i].bo≤zR rules[i]→nw n ps st b pH st qU b1→Pf ph pH→ph.length≤pf.length+n→kO ph≤kO pf+31*n→
        ∃ou pg gD b' x y,(Option.bind (some (.inr (ph,pH,(b1:Int),qU)):Option (Sum ((List bB)×LP×Int×(List bB)×Mi×LP) ((List a7)×LP×Int×Mi))) λz26=>dk z26 λmo=>
         Option.bind (rec rules[i].bo src mo.1 wd mo.2.2.2 mo.2.1 st mo.2.2.1) λs0=>
         some (s0.2.1,s0.1,s0.2.2.2,st,s0.2.2.1,ps))=some (pg,ou,((b':Nat):Int),x,gD,y)∧nw (zR rules[i]) ps st b ou pg gD b':=by
       intro ph qU pH b1 n hn g hP1 QG sr;obtain⟨t,et,Iw⟩:=g.p;have MD:=g.b2;obtain⟨tu,gX,ov,b2,e2,g2⟩:=Iv rules[i] r8 ph qU pH st b1 g.tv hP1 (by unfold LN;omega) (by unfold SZ;omega) (by rw[et,eU];omega) (by omega) (by omega);refine⟨tu,gX,ov,b2,st,ps,?_,(g.tr g2).up hn⟩;rw[aW];show Option.bind (rec rules[i].bo src ph wd qU pH st (b1:Int)) _=_;rw[e2,aW]
      cases k4:rules[i].an==4 with
      |false=>
       rw[aX];exact inner pf sn ps b 0 (by omega) (nw.id hT 0) hP (by omega) (by omega)
      |true=>
       obtain⟨y,ey,ly⟩:=ahr b (by omega);rw[bf,ey,aW,bP (by simp only[ln,eF,fY];omega)];have nm:∃(nm:List a7)(b1:Nat),cond (decide (0<ln rules[i].bI)) (aH (0≤(0:Int)∧(0:Int)<ln rules[i].bI)<|some (gi rules[i].bI (0:Int),(b:Int))) (some (([[0]++y]:List a7),J ((b:Int)+1)))=some (nm,(b1:Int))∧b≤b1∧b1≤b+1∧nm.length≤jX rules[i].bI+1∧kO nm≤31*(jX rules[i].bI+2):=by
        cases hN:rules[i].bI with
        |nil=>
         refine⟨[[0]++y],b+1,?_,by omega,by omega,by simp,?_⟩
         ·rw[show decide ((0:Int)<ln ([]:List (List a7)))=false from rfl,aX,bX (by omega)]
         ·rw[Fp];simp[kO];omega
        |cons x xs=>
         refine⟨x,b,?_,cZ _,by omega,?_,?_⟩
         ·rw[show decide ((0:Int)<ln (x::xs))=true from eR (by simp only[ln,eF];omega),bf,bP (by simp only[ln,eF];omega)];rfl
         ·have:=a3Z x;rw[jX];omega
         ·have:=a41 x;rw[jX];omega
       obtain⟨nm,b1,en,w1,w2,w3,w4⟩:=nm;have ok:Ok (pf++nm):=⟨by rw[XY];unfold SZ;omega,by rw[eU];unfold LN;omega⟩;rw[en,aW];dsimp only;rw[a3R m pf nm (by unfold SZ;omega) (by omega),aW];obtain⟨t,gD,e,q1,q2,q3⟩:=a3Q m ok (by unfold LN;omega) st hT (by rw[eU];unfold SZ;omega);have ht:=q2 pf.length (λk g1 g2=>by rw[List.take_append_of_le_length g2];exact hP k g1 g2);rw[eU]at ht;rw[e,aW];exact inner (pf++nm) gD (ps++t) b1 (jX rules[i].bI+2) (by omega) ⟨⟨t,rfl,by omega⟩,⟨[],by rw[List.append_nil],by simp⟩,w1,by omega,q1⟩ q3 (by rw[eU];omega) (by rw[XY];omega)
  ·rw[gJ (by omega),aX];exact⟨ps,st,sn,b,rfl,nw.id hT _⟩
theorem a42:∀(k:Nat)(rules:List bA)(src:Int)(pf:List a7)(sn:Mi)(ps:LP)(st:List bB)(b:Nat),dU rules<k→dU rules≤1048576→Tv sn ps→Pf pf ps→pf.length+dU rules<LN→kO pf+31*dU rules<SZ→ps.length+dU rules<16777216→st.length+dU rules<16777216→b+dU rules<16777216→
   ∃ou pg gD b',xv m k rules src pf wd sn ps st (b:Int)=some (ou,pg,gD,((b':Nat):Int))∧nw (dU rules) ps st b ou pg gD b':=by
 intro k
 induction k with
 |zero=>intro rules src pf sn ps st b h;omega
 |succ k ih=>
  intro rules src pf sn ps st b hk hz hT hP uz Md h1 h2 h3;have hlen:=XX rules;have:=ahs m hm wd hh rules src pf (xv m k) hz uz Md (λr hr ph sn ps st b g1 g2 g3 g4 g5 g6 g7=>by
    have xD:zR r≤dU rules:=by
     have:∀l:List bA,∀x∈l,zR x≤dU l:=by
      intro l
      induction l with
      |nil=>intro x hx;cases hx
      |cons y l ih=>
       intro x hx;rw[dU];rcases List.mem_cons.1 hx with rfl|hx
       ·omega
       ·have:=ih x hx;omega
     exact this rules _ hr
    have hza:=XV r;exact ih r.bo src ph sn ps st b (by omega) (by omega) g1 g2 g3 g4 g5 g6 g7) m 0 sn ps st b (by unfold LN at hm uz;omega) (iv _) hT hP (by rw[o5];exact h1) (by rw[o5];exact h2) (by rw[o5];exact h3)
  rw[o5]at this;exact this
end
theorem aht{l:List cQ}{i:Nat}(h:i<l.length):gC (l.drop i)=zO l[i]+gC (l.drop (i+1)):=by rw[pq h,gC]
theorem Me:∀l:List cQ,l.length≤gC l
 |[]=>iv _
 |v::r=>by have:=Me r;rw[gC,eF];unfold zO;omega
section
variable (m:Nat) (hm:LN<m) (e:jm) (hh:∀r:bA,zR r≤1048576→∃b,Ae m r (jm.mk e.cI)=some b)
include hm hh
theorem ahu(l:List cQ)(og:Int)(hz:gC l≤1048576):∀(kk i:Nat)(sn:Mi)(ps:LP)(st:List bB)(b:Nat),l.length-i<kk→i≤l.length→Tv sn ps→ps.length+gC (l.drop i)<16777216→st.length+gC (l.drop i)<16777216→b+gC (l.drop i)<16777216→
   ∃ou pg gD b',kd m l e og kk (i:Int) (b:Int) ps st sn=some (((b':Nat):Int),ou,pg,gD)∧nw (gC (l.drop i)) ps st b ou pg gD b':=by
 have hlen:=Me l;intro kk
 induction kk with
 |zero=>intro i sn ps st b h;omega
 |succ kk ih=>
  intro i sn ps st b hk hi hT h1 h2 h3;rw[kd];by_cases h:i<l.length
  ·have hd:=aht h;have uv:zO l[i]+gC (l.drop (i+1))≤1048576:=by
    have:∀(l:List cQ)(i:Nat),gC (l.drop i)≤gC l:=by
     intro l
     induction l with
     |nil=>intro i;simp
     |cons x l ih=>intro i;cases i with
       |zero=>exact cZ _
       |succ i=>rw[List.drop_succ_cons,gC];have:=ih i;omega
    have:=this l i;omega
   have hO:dU l[i].dm.bo+4=zO l[i]:=by unfold zO;omega
   rw[ie h,bf,fy h,j6 l i h];cases l[i].dZ==og with
   |true=>
    obtain⟨pH,xB,qU,b1,e1,g⟩:=a42 m hm e.cI hh m l[i].dm.bo (i:Int) [] sn ps st b (by unfold LN at hm;omega) (by omega) hT (λk g1 g2=>by simp at g2;omega) (by unfold LN;simp;omega) (by unfold SZ;simp[kO];omega) (by omega) (by omega) (by omega);obtain⟨t,et,Iw⟩:=g.p;obtain⟨u,eu,lu⟩:=g.s;have MD:=g.b2;rw[bf,Pr,e1,aW,aW,bX (by omega)];obtain⟨tu,gX,ov,b2,e2,g2⟩:=ih (i+1) qU pH xB b1 (by omega) (by omega) g.tv (by rw[et,eU];omega) (by rw[eu,eU];omega) (by omega);exact⟨tu,gX,ov,b2,e2,by rw[hd];exact(g.tr g2).up (by omega)⟩
   |false=>
    rw[aX,aW,bX (by omega)];obtain⟨tu,gX,ov,b2,e2,g2⟩:=ih (i+1) sn ps st b (by omega) (by omega) hT (by omega) (by omega) (by omega);exact⟨tu,gX,ov,b2,e2,by rw[hd];exact g2.up (by omega)⟩
  ·rw[gJ (by omega),aX];exact⟨ps,st,sn,b,rfl,nw.id hT _⟩
end
section
variable (m:Nat) (hm:LN<m) (e:jm) (hh:uf e=true→∀r:bA,zR r≤1048576→∃b,Ae m r (jm.mk e.cI)=some b)
include hm hh
end
/-- If the one comes to something, so does the other, and the two are alike. -/
def tw{α β:Type}(R:α→β→Prop)(f:Option α)(g:Option β):Prop:=∀x,f=some x→∃y,g=some y∧R x y
theorem yN{α β:Type}{R:α→β→Prop}{x:α}{y:β}(h:R x y):tw R (some x) (some y):=λ_ e=>by cases e;exact⟨y,rfl,h⟩
theorem Ix{α:Type}(f:Option α):tw Eq f f:=λx e=>⟨x,e,rfl⟩
theorem xC{α β γ δ:Type}{R:α→β→Prop}{S:γ→δ→Prop}{f:Option α}{g:Option β}{k:α→Option γ}{k':β→Option δ}(h:tw R f g)(hk:∀x y,R x y→tw S (k x) (k' y)):tw S (Option.bind f k) (Option.bind g k'):=by
 intro x e;cases f with
 |none=>cases e
 |some a=>obtain⟨b,eb,hr⟩:=h a rfl;rw[eb];exact hk a b hr x e
theorem XZ{α β:Type}{R:α→β→Prop}{f:Option α}{g:Option β}{p q:Prop}[Decidable p][Decidable q](hp:p→q)(h:tw R f g):tw R (aH p f) (aH q g):=by
 intro x e;by_cases w:p
 ·rw[bP w]at e;rw[bP (hp w)];exact h x e
 ·unfold aH at e;rw[if_neg w]at e;cases e
theorem Mf{α β:Type}{R:α→β→Prop}{f f':Option α}{g g':Option β}(c:Bool)(h:tw R f g)(h':tw R f' g'):tw R (cond c f f') (cond c g g'):=by
 cases c
 ·exact h'
 ·exact h
theorem ahv(m:Nat)(rules:List bA)(pf:List a7)(i:Int)(st gX:List bB):∀(kk:Nat)(j:Int)(ps:LP)(sn:Mi),xt m rules pf i st kk j ps sn=xt m rules pf i gX kk j ps sn:=by
 intro kk
 induction kk with
 |zero=>intro j ps sn;rfl
 |succ kk ih=>
  intro j ps sn;rw[xt,xt];simp only[ih];rfl
abbrev Q4:=LP×List bB×Mi×Int
def Y0(x y:Q4):Prop:=y.1=x.1∧y.2.1.length≤x.2.1.length∧y.2.2=x.2.2
abbrev Q6:=List bB×LP×Int×List bB×Mi×LP
def a43(x y:Q6):Prop:=y.1.length≤x.1.length∧y.2.1=x.2.1∧y.2.2.1=x.2.2.1∧y.2.2.2.2.1=x.2.2.2.2.1
def ahw:Sum Q6 (List a7×LP×Int×Mi)→Sum Q6 (List a7×LP×Int×Mi)→Prop
 | .inl x,.inl y=>a43 x y
 | .inr x,.inr y=>x=y
 |_,_=>False
theorem ahx(m:Nat)(rules:List bA)(src Mg:Int)(pf:List a7)(wd:Int)(rec:List bA→Int→List a7→Int→Mi→LP→List bB→Int→Option Q4)
   (Iv:∀r ph sn ps st gX b,gX.length≤st.length→tw Y0 (rec r src ph wd sn ps st b) (rec r Mg ph wd sn ps gX b)):
   ∀(kk:Nat)(i:Int)(ps:LP)(st gX:List bB)(b:Int)(sn:Mi),gX.length≤st.length→tw Y0 (yF m rules src pf wd rec kk i ps st b sn) (yF m rules Mg pf wd rec kk i ps gX b sn):=by
 intro kk
 induction kk with
 |zero=>intro i ps st gX b sn h x e;cases e
 |succ kk ih=>
  intro i ps st gX b sn lT;rw[yF,yF];refine Mf _ (xC (R:=a43) (XZ id (xC (Ix _) ?_)) ?_) (yN ⟨rfl,lT,rfl⟩)
  ·rintro y _ rfl;refine Mf _ (yN ⟨lT,rfl,rfl,rfl⟩) (xC (R:=ahw) (Mf _ ?_ (Mf _ ?_ (Mf _ ?_ ?_))) ?_)
   ·refine XZ (λh=>?_) (yN ?_)
    ·unfold ln at h⊢;simp only[eF,fY]at h⊢;omega
    ·exact⟨by simp only[eU,eF,fY];omega,rfl,rfl,rfl⟩
   ·rw[ahv m rules pf i st gX];refine xC (Ix _) ?_;rintro y _ rfl;exact yN ⟨lT,rfl,rfl,rfl⟩
   ·refine xC (Ix _) ?_;rintro y _ rfl;refine XZ id (xC (Ix _) ?_);rintro z _ rfl;refine xC (Ix _) ?_;rintro u _ rfl;refine xC (R:=Eq) (Ix _) ?_;rintro v _ rfl;exact yN rfl
   ·exact yN rfl
   ·rintro x y QN;cases x with
    |inl x=>cases y with
      |inl y=>exact yN QN
      |inr y=>cases QN
    |inr x=>cases y with
      |inl y=>cases QN
      |inr y=>
       cases QN;refine xC (Iv _ _ _ _ _ _ _ lT) ?_;rintro⟨p1,s1,n1,b1⟩ ⟨p2,s2,n2,b2⟩ ⟨h1,h2,h3⟩;cases h1;cases h3;exact yN ⟨h2,rfl,rfl,rfl⟩
  ·rintro⟨s1,p1,b1,a1,n1,c1⟩ ⟨s2,p2,b2,a2,n2,c2⟩ ⟨h1,h2,h3,h4⟩;cases h2;cases h3;cases h4;exact ih _ _ _ _ _ _ h1
theorem ahy(m:Nat)(src Mg wd:Int):∀(k:Nat)(rules:List bA)(pf:List a7)(sn:Mi)(ps:LP)(st gX:List bB)(b:Int),gX.length≤st.length→tw Y0 (xv m k rules src pf wd sn ps st b) (xv m k rules Mg pf wd sn ps gX b):=by
 intro k
 induction k with
 |zero=>intro rules pf sn ps st gX b h x e;cases e
 |succ k ih=>
  intro rules pf sn ps st gX b h;rw[xv,xv];exact ahx m rules src Mg pf wd _ (λr ph sn ps st gX b h=>ih r ph sn ps st gX b h) m 0 ps st gX b sn h
/-- The sources of one origin. -/
abbrev ox(og:Int)(l:List cQ):List cQ:=l.filter λs=>s.dZ==og
abbrev Q5:=Int×LP×List bB×Mi
def a44(x y:Q5):Prop:=y.1=x.1∧y.2.1=x.2.1∧y.2.2.1.length≤x.2.2.1.length∧y.2.2.2=x.2.2.2
theorem ahz(m:Nat)(e:jm)(og:Int)(l o:List cQ)(hl:l.length<1000000000)(ho:o.length<1000000000):∀(kk i pI j:Nat)(ps:LP)(st gX:List bB)(b:Int)(sn:Mi),o.drop j=ox og (l.drop i)→(∀s∈o,(s.dZ==og)=true)→j≤o.length→o.length-j<pI→gX.length≤st.length→
   tw a44 (kd m l e og kk (i:Int) b ps st sn) (kd m o e og pI (j:Int) b ps gX sn):=by
 intro kk
 induction kk with
 |zero=>intro i pI j ps st gX b sn _ _ _ _ _ x e;cases e
 |succ kk ih=>
  intro i pI j ps st gX b sn hd hO hj hk lT;by_cases h:i<l.length
  ·rw[kd,ie h,bf,fy h,j6 l i h];rw[pq h]at hd;cases hc:l[i].dZ==og with
   |true=>
    have fL:o.drop j=l[i]::ox og (l.drop (i+1)):=by rw[hd];exact List.filter_cons_of_pos hc
    have tO:j<o.length:=by
     rcases Nat.lt_or_ge j o.length with q|q
     ·exact q
     ·rw[zh q]at fL;cases fL
    rw[pq tO]at fL;obtain⟨k',rfl⟩:∃q,pI=q+1:=⟨pI-1,by omega⟩;injection fL with e1 e2;rw[kd,ie tO,bf,fy tO,j6 o j tO,e1,hc,bf,bf,bX (by omega),bX (by omega)];refine xC (R:=a44) (xC (ahy m (i:Int) (j:Int) e.cI m l[i].dm.bo [] sn ps st gX b lT) ?_) ?_
    ·rintro⟨p1,s1,n1,b1⟩ ⟨p2,s2,n2,b2⟩ ⟨h1,h2,h3⟩;cases h1;cases h3;exact yN ⟨rfl,rfl,h2,rfl⟩
    ·rintro⟨b1,p1,s1,n1⟩ ⟨b2,p2,s2,n2⟩ ⟨h1,h2,h3,h4⟩;cases h1;cases h2;cases h4;exact ih (i+1) k' (j+1) _ _ _ _ _ e2 hO (by omega) (by omega) h3
   |false=>
    have fL:o.drop j=ox og (l.drop (i+1)):=by rw[hd];exact List.filter_cons_of_neg (by rw[hc];exact Bool.false_ne_true)
    rw[aX,aW,bX (by omega)];exact ih (i+1) pI j ps st gX b sn fL hO hj hk lT
  ·rw[show l.drop i=[]from zh (by omega)]at hd;have tO:o.length≤j:=List.drop_eq_nil_iff.1 hd;obtain⟨k',rfl⟩:∃q,pI=q+1:=⟨pI-1,by omega⟩;rw[kd,gJ (by omega),aX,kd,gJ tO,aX];exact yN ⟨rfl,rfl,lT,rfl⟩
theorem ahA{α:Type}[Inhabited α](l:List α)(x:α){i:Nat}(h:i<l.length):gi (l++[x]) (i:Int)=gi l (i:Int):=by
 rw[j6 _ i (by rw[eU];omega),j6 l i h,List.getElem_append_left h]
theorem ahB(m:Nat)(e:jm)(og:Int)(l:List cQ)(x:cQ)(hl:l.length<1000000000):∀(n i:Nat),i+n=l.length→∀(kk pI:Nat)(b:Int)(ps:LP)(st:List bB)(sn:Mi)(R:Q5),n<pI→kd m l e og pI (i:Int) b ps st sn=some R→
   kd m (l++[x]) e og (kk+n) (i:Int) b ps st sn=kd m (l++[x]) e og kk (l.length:Int) R.1 R.2.1 R.2.2.1 R.2.2.2:=by
 intro n
 induction n with
 |zero=>
  intro i hi kk pI b ps st sn R hk e;obtain⟨k',rfl⟩:∃q,pI=q+1:=⟨pI-1,by omega⟩;rw[kd,gJ (by omega),aX]at e;cases e;rw[show i=l.length by omega];rfl
 |succ n ih=>
  intro i hi kk pI b ps st sn R hk e;obtain⟨k',rfl⟩:∃q,pI=q+1:=⟨pI-1,by omega⟩;have h:i<l.length:=by omega
  rw[kd,ie h,bf,fy h,bX (by omega)]at e;obtain⟨z,ez,e⟩:=ah e;rw[show kk+(n+1)=(kk+n)+1 by omega,kd,ie (by rw[eU];omega),bf,fy (by rw[eU];omega),ahA l x h,ez,aW,bX (by omega)];exact ih (i+1) (by omega) kk k' _ _ _ _ R (by omega) e
theorem ahC{sn:Mi}{ps:LP}(hT:Tv sn ps){a b:List a7}(ha:a∈ps)(hb:b∈ps):∀(k k' i:Nat),i+k=a.length→i+k'=b.length→a.take i=b.take i→sg ps a k i=sg ps b k' i→a=b:=by
 intro k
 induction k with
 |zero=>
  intro k' i h1 h2 ht h;cases k' with
  |zero=>rw[List.take_of_length_le (by omega),List.take_of_length_le (by omega)]at ht;exact ht
  |succ k'=>
   rw[sg,sg]at h;injection h with h _;have:=List.idxOf_lt_length_of_mem (hT.pre b hb (i+1) (by omega) (by omega));omega
 |succ k ih=>
  intro k' i h1 h2 ht h;have ma:=hT.pre a ha (i+1) (by omega) (by omega);cases k' with
  |zero=>
   rw[sg,sg]at h;injection h with h _;have:=List.idxOf_lt_length_of_mem ma;omega
  |succ k'=>
   rw[sg,sg]at h;injection h with h h';exact ih k' (i+1) (by omega) (by omega) (a3W ma h) h'
theorem a45{sn:Mi}{ps:LP}(hT:Tv sn ps){a b:List a7}(ha:a∈ps)(hb:b∈ps)(h:Lt (us ps) a b=false)(h':Lt (us ps) b a=false):a=b:=by
 rw[CY hT ha hb]at h;rw[CY hT hb ha]at h';exact ahC hT ha hb a.length b.length 0 (by omega) (by omega) rfl (a3U _ _ h h')
abbrev yO(ps o:LP):Prop:=∀i j,i<j→j<o.length→Lt (us ps) (gx o j) (gx o i)=false
theorem a47{ps o:LP}{x:List a7}(h:yO ps (x::o)):yO ps o:=λi j hi hj=>h (i+1) (j+1) (by omega) (by rw[eF];omega)
theorem a48{ps o:LP}{x y:List a7}(h:yO ps (x::o))(hy:y∈o):Lt (us ps) y x=false:=by
 obtain⟨k,hk,rfl⟩:=List.getElem_of_mem hy;have:=h 0 (k+1) (by omega) (by rw[eF];omega);rw[w9 (by rw[eF];omega),w9 (by rw[eF];omega)]at this;exact this
theorem Y1{sn:Mi}{ps:LP}(hT:Tv sn ps):∀a b:LP,(∀x∈a,x∈ps)→a.Perm b→yO ps a→yO ps b→a=b
 |[],b,_,hp,_,_=>(List.nil_perm.1 hp).symm
 |x::a,[],_,hp,_,_=>by cases hp.length_eq
 |x::a,y::b,hm,hp,h1,h2=>by
  have e:x=y:=by
   have hx:x∈y::b:=hp.mem_iff.1 (List.mem_cons_self ..);have hy:y∈x::a:=hp.mem_iff.2 (List.mem_cons_self ..);rcases List.mem_cons.1 hx with q|q
   ·exact q
   ·rcases List.mem_cons.1 hy with w|w
    ·exact w.symm
    ·exact a45 hT (hm x (List.mem_cons_self ..)) (hm y hy) (a48 h2 q) (a48 h1 w)
  cases e;rw[Y1 hT a b (λz hz=>hm z (List.mem_cons_of_mem _ hz)) (List.Perm.cons_inv hp) (a47 h1) (a47 h2)]
theorem Y2(t:LP)(x:List a7):∀l:LP,x∈l→(l++t).idxOf x=l.idxOf x
 |[],h=>by cases h
 |y::l,h=>by
  rw[List.cons_append,List.idxOf_cons,List.idxOf_cons];cases e:y==x with
  |true=>rfl
  |false=>
   rcases List.mem_cons.1 h with q|q
   ·rw[q]at e;simp at e
   ·rw[Y2 t x l q]
theorem ahD{sn:Mi}{ps:LP}(hT:Tv sn ps)(t:LP){a b:List a7}(ha:a∈ps)(hb:b∈ps):∀(k i:Nat),i+k≤a.length→i+k≤b.length→ur (ps++t) a b k i=ur ps a b k i:=by
 intro k
 induction k with
 |zero=>intro i _ _;rfl
 |succ k ih=>
  intro i h1 h2;have ma:=hT.pre a ha (i+1) (by omega) (by omega);have mb:=hT.pre b hb (i+1) (by omega) (by omega);rw[ur,ur,ih (i+1) (by omega) (by omega),Y2 t _ ps ma,Y2 t _ ps mb]
theorem ahE{sn:Mi}{ps:LP}(hT:Tv sn ps)(t:LP){a b:List a7}(ha:a∈ps)(hb:b∈ps):Lt (us (ps++t)) a b=Lt (us ps) a b:=by
 rw[Lt,Lt,us,us,ahD hT t ha hb _ 0 (by omega) (by omega)]
/-- Where two layers of the first list stand in the order of the longer one. -/
theorem ahF{sn ov:Mi}{ps t:LP}(hT:Tv sn ps)(Y3:Tv ov (ps++t)){o o2:LP}(hp:o.Perm ps)(we:o2.Perm (ps++t))(hs:yO ps o)(tG:yO (ps++t) o2){i j:Nat}(dL:i<j)(hj:j<o.length):
   o2.idxOf (gx o i)<o2.idxOf (gx o j):=by
 have nd:o.Nodup:=hp.nodup_iff.2 hT.nd;have hi:i<o.length:=by omega
 have mi:gx o i∈ps:=hp.mem_iff.1 (gj hi);have mj:gx o j∈ps:=hp.mem_iff.1 (gj hj);have Y4:gx o i∈o2:=we.mem_iff.2 (List.mem_append.2 (.inl mi));have mj2:gx o j∈o2:=we.mem_iff.2 (List.mem_append.2 (.inl mj));have li:=List.idxOf_lt_length_of_mem Y4;have lj:=List.idxOf_lt_length_of_mem mj2;have Y5:gx o2 (o2.idxOf (gx o i))=gx o i:=by rw[w9 li];exact List.getElem_idxOf li
 have gj2:gx o2 (o2.idxOf (gx o j))=gx o j:=by rw[w9 lj];exact List.getElem_idxOf lj
 have ne:gx o i≠gx o j:=λe=>by
  rw[w9 hi,w9 hj]at e;exact absurd ((List.getElem_inj nd).1 e) (by omega)
 have h1:=hs i j dL hj;rcases Nat.lt_trichotomy (o2.idxOf (gx o i)) (o2.idxOf (gx o j))with h|h|h
 ·exact h
 ·rw[h,gj2]at Y5;exact absurd Y5.symm ne
 ·have:=tG _ _ h li;rw[Y5,gj2,ahE hT t mi mj]at this;exact absurd (a45 hT mi mj this h1) ne
/-- A list of paths is like itself. -/
theorem ahG(m:Nat)(l:LP)(hl:l.length<SZ)(hm:LN<m)(hx:∀x∈l,x.length<LN):∀(kk i:Nat),l.length-i<kk→i≤l.length→AE m l l kk (i:Int)=some (.inr ()):=by
 unfold SZ at hl;intro kk
 induction kk with
 |zero=>intro i h;omega
 |succ kk ih=>
  intro i hk hi;by_cases h:i<l.length
  ·have hn:=hx _ (List.getElem_mem h);obtain⟨z,ez,hz⟩:=a3Y m l[i] l[i] rfl hn m 0 (by unfold LN at hn hm;omega) (iv _) rfl;have ez':F8 m l[i] l[i] m 0=some z:=ez;have hb:Il m l[i] l[i]=some true:=by
    rw[Il,show decide (ln l[i]<ln l[i])=false from du (by omega),aX,ez',aW,hz,eR rfl]
   rw[AE,ie h,bf,fy h,fy h,j6 l i h,bne_self_eq_false,aX,hb,aW,lt_eq,aX,oF,aX,bX (by omega)];exact ih (i+1) (by omega) (by omega)
  ·rw[AE,gJ (by omega),aX]
theorem a4a(m:Nat)(l:LP)(hl:l.length<SZ)(XU:l.length<m)(hm:LN<m)(hx:∀x∈l,x.length<LN):AF m l l=some true:=by
 have:AE m l l m 0=some (.inr ()):=ahG m l hl hm hx m 0 (by omega) (iv _);rw[AF,bne_self_eq_false,aX,this];rfl
/-- A source that is right. -/
abbrev Y6(m:Nat)(s:cQ):Prop:=cond (decide (s.dZ<1)) true (decide (3<s.dZ))=false∧GI m (sE.mk s.dm.bo)=some 0
theorem ahH(m:Nat)(l:List cQ)(hl:l.length≤8):∀(kk i:Nat),sX m l kk (i:Int)=some (.inr ())→∀s∈l.drop i,Y6 m s:=by
 intro kk
 induction kk with
 |zero=>intro i h;cases h
 |succ kk ih=>
  intro i h s hs;by_cases hi:i<l.length
  ·rw[sX,ie hi,bf,fy hi,lt_eq,j6 l i hi,bX (by omega)]at h;obtain⟨y,ey,h⟩:=ah h;cases hx:cond (decide (l[i].dZ<1)) true (decide (3<l[i].dZ))with
   |true=>rw[hx,bf,bf]at h;cases h
   |false=>
    rw[hx,aX]at h ey;cases hy:(y !=0)with
    |true=>rw[hy,bf]at h;cases h
    |false=>
     rw[hy,aX]at h;have y0:y=0:=bne_eq_false_iff_eq.1 hy;rw[pq hi]at hs;rcases List.mem_cons.1 hs with rfl|hs
     ·exact⟨hx,by rw[ey,y0]⟩
     ·exact ih (i+1) h s hs
  ·rw[zh (by omega)]at hs;cases hs
theorem ahI(m:Nat){l:List cQ}(h:rT m l=some 0):l.length≤8∧∀s∈l,Y6 m s:=by
 rw[rT]at h;by_cases h8:8<l.length
 ·rw[eR (by unfold ln;omega),bf]at h;cases h
 ·rw[du (by unfold ln;omega),aX]at h;obtain⟨z,ez,h⟩:=ah h;cases z with
  |inl x=>
   have:some x=some (0:Int):=h;cases this;exfalso;have q:∀(kk:Nat)(i:Int),sX m l kk i≠some (.inl 0):=by
    intro kk
    induction kk with
    |zero=>intro i h;cases h
    |succ kk ih=>
     intro i h;rw[sX]at h;cases hd:decide (i<ln l)with
     |false=>rw[hd,aX]at h;cases h
     |true=>
      rw[hd,bf]at h;obtain⟨_,h⟩:=bW h;rw[lt_eq]at h;obtain⟨y,ey,h⟩:=ah h;cases hc:cond (cond (decide ((gi l i).dZ<1)) true (decide (3<(gi l i).dZ))) true (y !=0)with
      |true=>rw[hc,bf]at h;cases h
      |false=>rw[hc,aX]at h;exact ih _ h
   exact q m 0 ez
  |inr u=>
   have:=ahH m l (by omega) m 0 ez;rw[o5]at this;exact⟨by omega,this⟩
theorem ahJ(m:Nat){l:List cQ}(hl:l.length≤8)(hm:8<m)(h:∀s∈l,Y6 m s):rT m l=some 0:=by
 have:∀(kk i:Nat),l.length-i<kk→i≤l.length→sX m l kk (i:Int)=some (.inr ()):=by
  intro kk
  induction kk with
  |zero=>intro i h;omega
  |succ kk ih=>
   intro i hk hi;by_cases hd:i<l.length
   ·obtain⟨h1,h2⟩:=h _ (List.getElem_mem hd);rw[sX,ie hd,bf,fy hd,lt_eq,j6 l i hd,h1,aX,h2,aW,aX,bne_self_eq_false,aX,bX (by omega)];exact ih (i+1) (by omega) (by omega)
   ·rw[sX,gJ (by omega),aX]
 have h0:sX m l m 0=some (.inr ()):=this m 0 (by omega) (iv _);rw[rT,du (by unfold ln;omega),aX,h0];rfl
theorem ahK(m:Nat)(l:List cQ)(og:Int)(hl:l.length≤1048576):∀(kk i:Nat)(acc:List cQ),l.length-i<kk→i≤l.length→acc.length≤i→F9 m l og kk acc (i:Int)=some (acc++ox og (l.drop i)):=by
 intro kk
 induction kk with
 |zero=>intro i acc h;omega
 |succ kk ih=>
  intro i acc hk hi ha;by_cases h:i<l.length
  ·rw[F9,ie h,bf,fy h,j6 l i h,pq h];cases hc:l[i].dZ==og with
   |true=>
    rw[bf,bP (by simp only[ln,eF,fY];omega),lt_eq,aW,bX (by omega),ih (i+1) _ (by omega) (by omega) (by rw[eU,List.length_singleton];omega)];rw[show ox og (l[i]::l.drop (i+1))=l[i]::ox og (l.drop (i+1))from List.filter_cons_of_pos hc,xQ];rfl
   |false=>
    rw[aX,aW,bX (by omega),ih (i+1) _ (by omega) (by omega) (by omega)];rw[show ox og (l[i]::l.drop (i+1))=ox og (l.drop (i+1))from List.filter_cons_of_neg (by rw[hc];exact Bool.false_ne_true)]
  ·rw[F9,gJ (by omega),aX,zh (by omega)];show _=some (acc++[]);rw[List.append_nil]
theorem Y7(l:List cQ)(x:cQ):gC (l++[x])=gC l+zO x:=by
 induction l with
 |nil=>simp only[List.nil_append,gC];omega
 |cons y l ih=>rw[List.cons_append,gC,gC,ih];omega
theorem ahL(og:Int)(l:List cQ):gC (ox og l)≤gC l:=by
 induction l with
 |nil=>exact cZ _
 |cons y l ih=>
  by_cases h:(y.dZ==og)=true
  ·rw[show ox og (y::l)=y::ox og l from List.filter_cons_of_pos h,gC,gC];omega
  ·rw[show ox og (y::l)=ox og l from List.filter_cons_of_neg h,gC];omega
abbrev Iy(e:jm)(og:Int):Bool:=cond (cond (!(uf e)) true (decide (og<1))) true (decide (3<og))
section
variable (m:Nat) (hm:LN<m) (yX:1048582<m) (e:jm) (hh:uf e=true→∀r:bA,zR r≤1048576→∃b,Ae m r (jm.mk e.cI)=some b)
theorem Y8(l:List cQ)(og:Int){c:Int}(hc:rT m l=some c):(∃x,x≠0∧xy m l e og=some ([],x))∨(c=0∧Iy e og=false):=by
 rw[xy,hc,aW];by_cases h0:c=0
 ·rw[h0,show((0:Int) !=0)=false from rfl,aX,lt_eq];cases hE:Iy e og with
  |true=>
   have hE':cond (cond (!(uf e)) true (decide (og<1))) true (decide (3<og))=true:=hE;exact .inl ⟨2,by decide,by rw[hE',bf]⟩
  |false=>exact .inr ⟨rfl,rfl⟩
 ·rw[show(c !=0)=true from bne_iff_ne.2 h0,bf];exact .inl ⟨c,h0,rfl⟩
theorem a4b{og:Int}(hE:Iy e og=false):uf e=true:=by
 cases hi:uf e
 ·unfold Iy at hE;rw[hi]at hE;cases hE
 ·rfl
include hm yX
theorem ahM{sn ov:Mi}{ps t o o2:LP}(hT:Tv sn ps)(Y3:Tv ov (ps++t))(hp:o.Perm ps)(we:o2.Perm (ps++t))(hs:yO ps o)(tG:yO (ps++t) o2)(hn:(ps++t).length≤1048576):∀(kk i:Nat)(v:Int),o.length-i<kk→i≤o.length→(i<o.length→v<(o2.idxOf (gx o i):Int))→Fa m (o,0) (o2,0) kk v (i:Int)=some (.inr ()):=by
 have h1:=hp.length_eq;have h2:=we.length_eq;rw[eU]at hn h2;intro kk
 induction kk with
 |zero=>intro i v h;omega
 |succ kk ih=>
  intro i v hk hi hv;by_cases h:i<o.length
  ·have mi:gx o i∈ps:=hp.mem_iff.1 (gj h);have Y4:gx o i∈o2:=we.mem_iff.2 (List.mem_append.2 (.inl mi));have szl:∀x∈o2,x.length<LN:=λx hx=>(Y3.sz x (we.mem_iff.1 hx)).len;have:=hv h;rw[Fa];dsimp only;rw[ie h,bf,fy h,lR,ahn m (hT.sz _ mi).len szl (by unfold SZ;omega) (by omega) hm Y4,aW,show decide (((o2.idxOf (gx o i):Nat):Int)≤v)=false from du (by omega),aX,bX (by omega)];exact ih (i+1) _ (by omega) (by omega) (λh'=>by have:=ahF hT Y3 hp we hs tG (j:=i+1) (Nat.lt_succ_self i) h';omega)
  ·rw[Fa];dsimp only;rw[gJ (by omega),aX]
include hh
theorem QO(l:List cQ)(og:Int)(hz:gC l≤1048576)(hc:rT m l=some 0)(hE:Iy e og=false):
   ∃(b:Nat)(ps:LP)(st:List bB)(sn:Mi)(o:LP),kd m l e og m 0 0 ([]:LP) ([]:List bB) ([]:Mi)=some (((b:Nat):Int),ps,st,sn)∧nw (gC l) [] [] 0 ps st sn b∧xy m l e og=some (o,0)∧o.Perm ps∧yO ps o∧ps.length≤1048576:=by
 have hlen:=Me l;have hI:=a4b e hE;obtain⟨ps,st,sn,b,e1,g⟩:=ahu m hm e (hh hI) l og hz m 0 [] [] [] 0 (by omega) (iv _) Tv.nil (by simp;omega) (by simp;omega) (by simp;omega);rw[o5]at g;have tH:kd m l e og m 0 0 ([]:LP) ([]:List bB) ([]:Mi)=some (((b:Nat):Int),ps,st,sn):=e1;obtain⟨t,et,Iw⟩:=g.p;rw[List.nil_append]at et;obtain⟨o,e2,h3,h4⟩:=ahk m g.tv hm (by rw[et];omega) (by rw[et];omega) st;refine⟨b,ps,st,sn,o,tH,g,?_,h3,h4,by rw[et];omega⟩;rw[xy,hc,aW,show((0:Int) !=0)=false from rfl,aX,lt_eq];show cond (Iy e og) _ _=_;rw[hE,aX,HC,tH,aW,aW,e2,aW]
theorem ahN(l:List cQ)(x:cQ)(og:Int)(hz:gC l+zO x≤1048576)(hI:uf e=true){b:Nat}{ps tu:LP}{st gX:List bB}{sn ov:Mi}{b2:Int}(g:nw (gC l) [] [] 0 ps st sn b)
   (e1:kd m l e og m 0 0 ([]:LP) ([]:List bB) ([]:Mi)=some (((b:Nat):Int),ps,st,sn))(e2:kd m (l++[x]) e og m 0 0 ([]:LP) ([]:List bB) ([]:Mi)=some (b2,tu,gX,ov)):
   ∃t,tu=ps++t∧((x.dZ==og)=false→t=[]):=by
 have hlen:=Me l;obtain⟨k,hk⟩:∃k,m=(k+2)+l.length:=⟨m-l.length-2,by omega⟩;have a:=ahB m e og l x (by omega) l.length 0 (by omega) (k+2) m 0 [] [] [] _ (by omega) e1;rw[←hk]at a;have a':kd m (l++[x]) e og m 0 0 ([]:LP) ([]:List bB) ([]:Mi)=kd m (l++[x]) e og (k+2) (l.length:Int) (b:Int) ps st sn:=a;rw[e2]at a';have hx:l.length<(l++[x]).length:=by rw[eU,List.length_singleton];omega
 have gx1:gi (l++[x]) (l.length:Int)=x:=by rw[j6 _ _ hx];simp
 rw[kd,ie hx,bf,fy hx,gx1,bX (by omega)]at a';obtain⟨t,et,Iw⟩:=g.p;obtain⟨u,eu,lu⟩:=g.s;rw[List.nil_append]at et eu;have gb:=g.b2;have hO:dU x.dm.bo+4=zO x:=by unfold zO;omega
 have fin:∀(q:Q5),kd m (l++[x]) e og (k+1) ((l.length+1:Nat):Int) q.1 q.2.1 q.2.2.1 q.2.2.2=some q:=by
  intro q;rw[kd,gJ (by rw[eU,List.length_singleton];omega),aX]
 cases hc:x.dZ==og with
 |true=>
  obtain⟨pH,xB,qU,b1,e3,g1⟩:=a42 m hm e.cI (hh hI) m x.dm.bo (l.length:Int) [] sn ps st b (by omega) (by omega) g.tv (λk g1 g2=>by simp at g2;omega) (by unfold LN;simp;omega) (by unfold SZ;simp[kO];omega) (by rw[et];omega) (by rw[eu];omega) (by omega);rw[hc,bf,Pr,e3,aW,aW]at a';have:=a'.trans (fin (((b1:Nat):Int),pH,xB,qU));cases this;obtain⟨v,ev,_⟩:=g1.p;exact⟨v,ev,λh=>by cases h⟩
 |false=>
  rw[hc,aX,aW]at a';have:=a'.trans (fin (((b:Nat):Int),ps,st,sn));cases this;exact⟨[],(List.append_nil _).symm,λ_=>rfl⟩
theorem ahO(l:List cQ)(more:cQ)(og:Int)(hz:gC l+zO more≤1048576)(ha:LW m=some true){g g2:Bool}(hg:CS m l=some g)(Jc:CS m [more]=some g2){c c2:Int}(hc:rT m l=some c)(uD:rT m (l++[more])=some c2):
   Fb m l more e og=some true:=by
 have hlen:=Me l;rw[Fb,ha,aW,hg,aW,lt_eq,Jc];cases g with
 |true=>rfl
 |false=>
 cases g2 with
 |true=>rfl
 |false=>
 rw[show(Option.bind (cond false (some true) (Option.bind (some false) λeM=>some (cond eM true (!true)))):(Bool→Option Bool)→Option Bool)=λf=>f false from rfl];dsimp only;rw[aX];rcases Y8 m e l og hc with⟨x,hx,e1⟩|⟨h0,hE⟩
 ·rw[e1,aW,bP (by simp only[ln,fY];omega),lt_eq,List.nil_append,bP (by simp only[ln,eF,fY];omega),lt_eq];have:∃y,xy m (l++[more]) e og=some y:=by
   rcases Y8 m e (l++[more]) og uD with⟨y,_,e2⟩|⟨h2,hE2⟩
   ·exact⟨_,e2⟩
   ·rw[h2]at uD;obtain⟨_,_,_,_,o,_,_,e2,_⟩:=QO m hm yX e hh (l++[more]) og (by rw[Y7];omega) uD hE2;exact⟨_,e2⟩
  obtain⟨y,ey⟩:=this;rw[ey,aW];dsimp only;rw[show(x !=0)=true from bne_iff_ne.2 hx,bf,bf]
 ·rw[h0]at hc;have hI:=a4b e hE;obtain⟨b,ps,st,sn,o,r1,g1,e1,p1,s1,n1⟩:=QO m hm yX e hh l og (by omega) hc hE;rw[e1,aW,bP (by simp only[ln,fY];omega),lt_eq,List.nil_append,bP (by simp only[ln,eF,fY];omega),lt_eq];rcases Y8 m e (l++[more]) og uD with⟨y,hy,e2⟩|⟨h2,_⟩
  ·rw[e2,aW];dsimp only;rw[show((0:Int) !=0)=false from rfl,aX,show(y !=0)=true from bne_iff_ne.2 hy,bf]
  rw[h2]at uD;obtain⟨b2,tu,gX,ov,o2,r2,g2,e2,p2,s2,n2⟩:=QO m hm yX e hh (l++[more]) og (by rw[Y7];omega) uD hE;obtain⟨t,et,ht⟩:=ahN m hm yX e hh l more og hz hI g1 r1 r2
  -- the sources of the origin alone
  have ck:=ahI m hc;have ow:∀s∈ox og l,s∈l:=λs hs=>(List.mem_filter.1 hs).1;have ol:(ox og l).length≤l.length:=List.length_filter_le ..;have De:rT m (ox og l)=some 0:=ahJ m (by omega) (by omega) (λs hs=>ck.2 s (ow s hs));have XO:=ahL og l;obtain⟨b3,ps3,st3,sn3,o3,r3,g3,e3,p3,s3,n3⟩:=QO m hm yX e hh (ox og l) og (by omega) De hE;have sim:=ahz m e og l (ox og l) (by omega) (by omega) m 0 m 0 [] [] [] 0 [] (by rw[o5,o5]) (λs hs=>(List.mem_filter.1 hs).2) (iv _) (by omega) (cZ _);obtain⟨y,ey,q1,q2,q3,q4⟩:=sim _ r1;have ey':kd m (ox og l) e og m 0 0 ([]:LP) ([]:List bB) ([]:Mi)=some y:=ey;rw[r3]at ey';cases ey';have q2':ps3=ps:=q2;subst q2';have oo:o3=o:=Y1 g1.tv o3 o (λx hx=>p3.mem_iff.1 hx) (p3.trans p1.symm) s3 s1;subst oo;have n1':=p1.length_eq;have szo:∀x∈o3,x.length<LN:=λx hx=>(g1.tv.sz x (p1.mem_iff.1 hx)).len;have own:F9 m l og m ([]:List cQ) 0=some (ox og l):=ahK m l og (by omega) m 0 [] (by omega) (iv _) (cZ _);rw[et]at p2 s2 n2;have T2:Tv ov (ps3++t):=by rw[←et];exact g2.tv
  have l2:=ahM m hm yX g1.tv T2 p1 p2 s1 s2 n2 m 0 (-1) (by omega) (iv _) (λ_=>by omega);have l2':Fa m (o3,0) (o2,0) m (-1) 0=some (.inr ()):=l2;rw[e2,aW];dsimp only;rw[show((0:Int) !=0)=false from rfl,aX,aX,own,aW,e3,aW];dsimp only;rw[show((0:Int) !=0)=false from rfl,aX,a4a m o3 (by unfold SZ;omega) (by omega) hm szo,aW,aX,oF,aX,l2'];cases Y9:more.dZ==og with
  |true=>
   have:(more.dZ !=og)=false:=by rw[bne,Y9];rfl
   rw[this,aX,aW,lt_eq,aX,aX];rfl
  |false=>
   have:(more.dZ !=og)=true:=by rw[bne,Y9];rfl
   have ht0:=ht Y9;rw[ht0,List.append_nil]at p2 s2;have oo2:o2=o3:=Y1 g1.tv o2 o3 (λx hx=>p2.mem_iff.1 hx) (p2.trans p1.symm) s2 s1;rw[this,bf,oo2,a4a m o3 (by unfold SZ;omega) (by omega) hm szo,aW,oF,bf,lt_eq,aX,aX];rfl
end
def Tt{α:Type}(x:Option α):Prop:=∃r,x=some r
theorem bg{α:Type}(a:α):Tt (some a):=⟨a,rfl⟩
theorem cm{α:Type}{b:Bool}{x y:Option α}(h1:b=true→Tt x)(h2:b=false→Tt y):Tt (cond b x y):=by
 cases b
 ·exact h2 rfl
 ·exact h1 rfl
theorem br{α β:Type}{x:Option α}{f:α→Option β}(h1:Tt x)(h2:∀a,x=some a→Tt (f a)):Tt (Option.bind x f):=by
 obtain⟨a,e⟩:=h1;rw[e];exact h2 a e
theorem lS{α:Type}{p:Prop}[Decidable p]{x:Option α}(h1:p)(h2:Tt x):Tt (aH p x):=by rw[bP h1];exact h2
theorem cq{α β:Type}{e:α}{f:α→Option β}(h:Tt (f e)):Tt (lt e f):=h
theorem jv{α β:Type}{z:Sum α β}{f:β→Option α}(h:∀s,z=.inr s→Tt (f s)):Tt (dk z f):=by
 cases z with
 |inl a=>exact⟨a,rfl⟩
 |inr s=>exact h s rfl
/-- A loop over a list, with a state that stays where 'I' holds. -/
theorem nx{α σ ρ:Type}[Inhabited α](F:Nat→σ→Int→Option ρ)(l:List α)(I:Nat→σ→Prop)
  (hF:∀(kk i:Nat)(a:σ),i<l.length→gi l (i:Int)∈l→I i a→(∀b,I (i+1) b→Tt (F kk b ((i+1:Nat):Int)))→Tt (F (kk+1) a (i:Int)))(hE:∀kk (i:Nat)(a:σ),l.length≤i→Tt (F (kk+1) a (i:Int))):
  ∀(kk i:Nat)(a:σ),l.length-i<kk→I i a→Tt (F kk a (i:Int)):=by
 intro kk
 induction kk with
 |zero=>intro i a h;omega
 |succ kk ih=>
  intro i a h hI;by_cases h1:i<l.length
  ·exact hF kk i a h1 (qT h1) hI (λb hb=>ih (i+1) b (by omega) hb)
  ·exact hE kk i a (by omega)
theorem t0{α ρ:Type}[Inhabited α](F:Nat→Int→Option ρ)(l:List α)
  (hF:∀(kk i:Nat),i<l.length→gi l (i:Int)∈l→Tt (F kk ((i+1:Nat):Int))→Tt (F (kk+1) (i:Int)))(hE:∀kk (i:Nat),l.length≤i→Tt (F (kk+1) (i:Int))){m:Nat}(hm:l.length<m):Tt (F m 0):=
 nx (λkk (_:Unit) i=>F kk i) l (λ_ _=>True) (λkk i a h1 h2 _ h3=>hF kk i h1 h2 (h3 () trivial)) (λkk i a h=>hE kk i h) m 0 () (by omega) trivial
theorem jj{α β:Type}{l:List α}{i:Nat}{x y:Option β}(h:i<l.length)(hx:Tt x):Tt (cond (decide ((i:Int)<ln l)) x y):=by rw[ie h];exact hx
theorem jk{α β:Type}{l:List α}{i:Nat}{x:Option β}{y:β}(h:l.length≤i):Tt (cond (decide ((i:Int)<ln l)) x (some y)):=by rw[gJ h];exact⟨_,rfl⟩
theorem hQ{α β:Type}{l:List α}{i:Nat}{x:Option β}(h:i<l.length)(hx:Tt x):Tt (aH (0≤(i:Int)∧(i:Int)<ln l) x):=by rw[fy h];exact hx
def clt(k:Int):ct:=ct.mk k [] 0 [] false
mutual
def Mh:ax→List ct
 | .mk t l=>cond (mT t.an==0) [t] (t::(ny l++[clt (mT t.an)]))
def ny:List ax→List ct
 |[]=>[]
 |x::r=>Mh x++ny r
end
theorem Ya(x:ax):Mh x=cond (mT x.aY.an==0) [x.aY] (x.aY::(ny x.ae++[clt (mT x.aY.an)])):=by obtain⟨t,l⟩:=x;rw[Mh];rfl
theorem Yb(n:Nat):∀v:List ax,cC v≤n→(ny v).length=jH v:=by
 induction n using Nat.strongRecOn with
 |_ n ih=>
  intro v
  induction v with
  |nil=>intro _;rw[ny,jH];rfl
  |cons x r Fe=>
   intro h;rw[cC]at h;have hk:=qR x;rw[ny,jH,eU,Fe (by omega),Ya,M3];have:=ih (cC x.ae) (by omega) x.ae (cZ _);cases(mT x.aY.an==0)
   ·simp only[aX,eF,eU,fY,this];omega
   ·rfl
theorem ahP{l:List ax}{i:Nat}(h:i<l.length):ny (l.drop i)=Mh (gi l (i:Int))++ny (l.drop (i+1)):=by
 rw[pq h,ny,←j6 l i h]
theorem ahQ(x:ax):(Mh x).length=M2 x:=by
 have:=Yb (cC [x]) [x] (cZ _);rw[ny,jH,ny,jH]at this;simpa using this
theorem ahR(v:List ax)(rec:List ct→List ax→Option (List ct))(hl:v.length≤1048576)(hr:∀x∈v,∀l:List ct,l.length+jH x.ae≤2500000→rec l x.ae=some (l++ny x.ae)):
  ∀(kk i:Nat)(a:List ct),v.length-i<kk→i≤v.length→a.length+jH (v.drop i)≤2500000→Gr FU v rec kk a (i:Int)=some (a++ny (v.drop i)):=by
 intro kk
 induction kk with
 |zero=>intro i a h;omega
 |succ kk ih=>
  intro i a h hi ha;rw[Gr];by_cases h1:i<v.length
  ·have hm:=qT h1;have xz:=Xp h1;have hlen:=ahQ (gi v (i:Int));rw[M3]at xz hlen;have hq:(a++[(gi v (i:Int)).aY]).length=a.length+1:=by simp
   rw[ie h1,bf,fy h1,bP (by unfold ln;simp only[eF,fY];omega),lt_eq,lt_eq,a3n];rw[ahP h1,Ya]at*;cases hc:(mT (gi v (i:Int)).aY.an==0)
   ·have hz:(mT (gi v (i:Int)).aY.an !=0)=true:=by rw[bne,hc];rfl
    rw[hc,aX]at xz hlen;have hlk:(ny (gi v (i:Int)).ae).length=jH (gi v (i:Int)).ae:=Yb _ _ (cZ _);rw[hz,bf,hr _ hm _ (by omega),aW,bP (by unfold ln;simp only[eF,fY,eU];omega),lt_eq,aW,bX (by omega),ih (i+1) _ (by omega) (by omega) (by simp only[eU,eF,fY];omega),aX];congr 1;simp only[xQ,List.cons_append,List.nil_append];rfl
   ·have hz:(mT (gi v (i:Int)).aY.an !=0)=false:=by rw[bne,hc];rfl
    rw[hc,bf]at xz;rw[hz,aX,aW,bX (by omega),ih (i+1) (a++[(gi v (i:Int)).aY]) (by omega) (by omega) (by rw[hq];omega),bf,xQ]
  ·rw[gJ (by omega),aX,zh (by omega),ny,List.append_nil]
theorem a4c(v:List ax):jH v≤cC v:=(Xq (cC v) v (cZ _)).1
theorem ahS:∀(k:Nat)(v:List ax)(l:List ct),cC v<k→cC v≤1048576→l.length+jH v≤2500000→Eb FU k l v=some (l++ny v):=by
 intro k
 induction k with
 |zero=>intro v l h;omega
 |succ k ih=>
  intro v l h hb hl;have hn:=qS v;rw[Eb,show Gr FU v (Eb FU k) FU l 0=some (l++ny (v.drop 0))from ahR v _ (by omega) (λx hx l hl=>ih x.ae l (by have:=qR x;have:=sb hx;omega) (by have:=qR x;have:=sb hx;omega) hl) FU 0 l (by unfold FU;omega) (iv _) (by rw[o5];exact hl),o5];rfl
theorem ahT(v:List ax)(hb:cC v≤1048576):Oe FU [] v=some (ny v):=by
 have h:=a4c v;unfold Oe;rw[ahS FU v [] (by unfold FU;omega) hb (by simp only[fY];omega)];rfl
def tz(t:ct):Nat:=t.db.length+t.Unit.length
theorem ahU(n:Nat):∀v:List ax,cC v≤n→∀t∈ny v,tz t≤cC v:=by
 induction n using Nat.strongRecOn with
 |_ n ih=>
  intro v
  induction v with
  |nil=>intro _ t ht;rw[ny]at ht;cases ht
  |cons x r Fe=>
   intro h t ht;rw[cC]at h⊢;have hk:=qR x;have hx:=a3v x;rw[ny]at ht;rcases List.mem_append.1 ht with ht|ht
   ·rw[Ya]at ht;cases hc:(mT x.aY.an==0)
    ·rw[hc,aX]at ht;rcases List.mem_cons.1 ht with rfl|ht
     ·unfold tz;omega
     ·rcases List.mem_append.1 ht with ht|ht
      ·have:=ih (cC x.ae) (by omega) x.ae (cZ _) t ht;omega
      ·rw[List.mem_singleton.1 ht];exact iv _
    ·rw[hc,bf]at ht;rw[List.mem_singleton.1 ht];unfold tz;omega
   ·have:=Fe (by omega) t ht;omega
theorem Mj(s:a7)(hs:s.length≤1048576):Tt (zA FU s):=by
 unfold zA;have hl:(bG s).length=s.length:=by simp[bG]
 refine br (nx (λkk a i=>BB FU s kk i a) (bG s) (λ_ _=>True) (λkk i a h1 h2 _ h3=>?_) (λkk i a h=>?_) FU 0 (bG s) (by rw[hl];unfold FU;omega) trivial) (λa _=>bg _)
 ·show Tt (BB FU s (kk+1) (i:Int) a);rw[BB,bX (by omega)];refine jj h1 (br (hQ h1 ?_) (λb _=>h3 b trivial))
  with_reducible repeat' first|exact bg _|apply cq|(apply cm<;>intro _)|(apply br<;>try intro _ _)|apply lS|(apply jv;intro _ _)
 ·show Tt (BB FU s (kk+1) (i:Int) a);rw[BB];exact jk h
theorem ahV(a b:a7)(ha:a.length≤1048576)(hb:b.length≤1048576):Tt (Kj FU a b):=by
 unfold Kj;exact br (Mj a ha) λ_ _=>br (Mj b hb) λ_ _=>bg _
theorem Yc(s p:a7):Tt (zG s p):=by
 unfold zG BK
 with_reducible repeat' first|exact bg _|apply cq|(apply cm<;>intro _)|(apply br<;>try intro _ _)|apply lS|(apply jv;intro _ _)
 exact λh=>⟨by unfold ln;omega,zi h⟩
theorem ahW(s p:a7):Tt (Kd s p):=by
 unfold Kd Oh;refine br (br ?_ λb hb=>cm (λe=>lS ?_ (bg _)) λ_=>bg _) λ_ _=>bg _
 ·unfold BK
  with_reducible repeat' first|exact bg _|apply cq|(apply cm<;>intro _)|(apply br<;>try intro _ _)|apply lS|(apply jv;intro _ _)
  exact λh=>⟨by unfold ln;omega,zi h⟩
 ·unfold BK at hb;rw[bP (λh=>⟨by unfold ln;omega,zi h⟩),lt_eq]at hb;have hb:=Option.some.inj hb;rw[e]at hb;refine⟨by unfold ln;omega,?_⟩;cases hd:decide (ln p≤ln s)
  ·rw[hd]at hb;cases hb
  ·exact zi hd
theorem ahX{s:a7}(h:(!(s==[]))=true):0≤(0:Int)∧(0:Int)<ln s:=by
 cases s with
 |nil=>cases h
 |cons a s=>unfold ln;simp only[eF];omega
theorem ahY(s:a7):Tt (Kf s):=by
 unfold Kf;exact br (ahW s [45]) λ_ _=>lS (λh=>ahX h) (cq (bg _))
theorem ahZ(s p:a7)(h:p.length=1):Tt (strings_Contains s p):=by
 unfold strings_Contains strings_Index stringslite_Index;refine br (br (cq (cm (λ_=>bg _) λ_=>cm (λ_=>lS ?_ (bg _)) λe=>?_)) λ_ _=>bg _) λ_ _=>bg _
 ·unfold ln;omega
 ·rw[show(ln p==1)=true from by unfold ln;rw[h];rfl]at e;cases e
theorem ai0(t:ct)(h:t.db.length+t.Unit.length≤1048576):Tt (Kh t):=by
 unfold Kh;refine lS (by unfold ln;omega) ?_
 with_reducible repeat' first|exact bg _|apply cq|(apply cm<;>intro _)|(apply br<;>try intro _ _)|apply lS|(apply jv;intro _ _)
 ·exact ahY _
 ·exact Yc _ _
 ·intro h;cases hx:decide (strings_IndexByte (t.db++t.Unit) 0<0)
  ·rw[hx]at h;cases h
  ·rw[hx,bf]at h;have:=eq_of_beq h;omega
 ·refine ahZ _ _ ?_;rename_i hx;by_cases e:t.db=[45]
  ·rw[e];rfl
  ·rw[show(t.db==[45])=false from vb.2 e]at hx;cases hd:decide (strings_IndexByte (t.db++t.Unit) 0<0)
   ·rw[hd]at hx;cases hx
   ·rw[hd,bf]at hx;cases h1:(ln t.db==1)
    ·rw[h1]at hx;cases hx
    ·have:=eq_of_beq h1;unfold ln at this;omega
theorem QP(i k:Int)(u:List ct)(h:0≤i):Tt (Ed i k u):=by
 unfold Ed;exact lS (λe=>⟨h,zi e⟩) (cq (bg _))
theorem ai1(l:List ct)(h0:0<l.length)(ht:tz (gi l 0)≤1048576):Tt (Kk FU l):=by
 unfold Kk;refine lS (by unfold ln;omega) ?_;have hT:(gi l 0).db.length≤1048576:=by unfold tz at ht;omega
 with_reducible repeat' first|exact bg _|apply cq|(apply cm<;>intro _)|(apply br<;>try intro _ _)|apply lS|(apply jv;intro _ _)
 ·exact QP _ _ _ (by omega)
 ·exact ahV _ _ hT (by decide)
 ·exact QP _ _ _ (by omega)
 ·rename_i z hz;refine QP _ _ _ ?_;obtain⟨y,hy⟩:=QP 1 13 l (by omega);rw[hy,aW]at hz;cases y<;>have:=Option.some.inj hz<;>omega
theorem ai2(l:List ct)(hl:l.length≤1048576)(ht:∀x∈l,tz x≤1048576):Tt (Kl FU l):=by
 unfold Kl;refine cm (λ_=>bg _) λ_=>br (t0 (Gu FU l) l (λkk i h1 h2 h3=>?_) (λkk i h=>?_) (by unfold FU;omega)) λ_ _=>jv λ_ _=>bg _
 ·rw[Gu,bX (by omega)];have hx:=ht _ h2;refine jj h1 (hQ h1 (br (br (ai0 _ (by unfold tz at hx;omega)) λ_ _=>cq (cm (λ_=>bg _) λ_=>lS (by unfold ln;omega) (cq (br (ai1 _ ?_ ?_) λ_ _=>bg _)))) λ_ _=>cm (λ_=>bg _) λ_=>h3))
  ·rw[fE];simp[ln];omega
  ·have e:fE l (i:Int) (ln l)=l.drop i:=by
    rw[fE];simp only[ln,Int.toNat_natCast];exact List.take_of_length_le (by simp)
   rw[e,show gi (l.drop i) 0=gi l (i:Int)from by rw[show(0:Int)=((0:Nat):Int)from rfl,j6 _ 0 (by simp;omega),j6 l i h1];simp];exact hx
 ·rw[Gu];exact jk h
theorem ai3:∀(k:Nat)(v:List ax),cC v<k→cC v≤1048576→Tt (Ef FU k v):=by
 intro k
 induction k with
 |zero=>intro v h;omega
 |succ k ih=>
  intro v hk hb;have hl:=qS v;rw[Ef];unfold On Om;refine br (br (br (t0 (Gw FU (Ef FU k) v) v (λkk i h1 h2 h3=>?_) (λkk i h=>?_) (by unfold FU;omega)) λ_ _=>jv λ_ _=>bg _) λ_ _=>bg _) λ_ _=>bg _
  ·have h4:=sb h2;have h5:=qR (gi v (i:Int));rw[Gw,bX (by omega)];refine jj h1 (hQ h1 (br ?_ λ_ _=>cm (λ_=>bg _) λ_=>h3));unfold Ol;exact cq (br (cm (λ_=>bg _) λ_=>ih _ (by omega) (by omega)) λ_ _=>cq (bg _))
  ·rw[Gw];exact jk h
theorem ai4(v:List ax)(hl:v.length≤1048576):Tt (Kn FU v):=by
 unfold Kn Oq;refine br (br (t0 (Gx FU v) v (λkk i h1 h2 h3=>?_) (λkk i h=>?_) (by unfold FU;omega)) λ_ _=>jv λ_ _=>bg _) λ_ _=>bg _
 ·rw[Gx,bX (by omega)];refine jj h1 (hQ h1 ?_)
  with_reducible repeat' first|exact h3|exact bg _|apply cq|(apply cm<;>intro _)|(apply br<;>try intro _ _)|apply lS
 ·rw[Gx];exact jk h
theorem ai5(s:a7)(hs:s.length≤1048576):Tt (Kc FU s):=by
 unfold Kc
 with_reducible repeat' first|exact bg _|apply cq|(apply cm<;>intro _)|(apply br<;>try intro _ _)|apply lS|(apply jv;intro _ _)
 ·exact Yc _ _
 ·exact Mj s hs
theorem a4d(d:cT)(h:zD d≤1048576):Tt (Gy FU d):=by
 have hz:=CX d;have hv:cC d.Value≤1048576:=by omega
 have hl:=qS d.Value;unfold Gy;have hf:Tt (Gt FU d.Value)∧∀y,Gt FU d.Value=some y→y.1.length≤1048576∧∀x∈y.1,tz x≤1048576:=by
  unfold Gt;rw[Qw FU Xs d.Value hv,aW,ahT d.Value hv];cases(Ff d.Value !=0)
  ·refine⟨bg _,λy e=>?_⟩;rw[aX,aW]at e;rw[←Option.some.inj e];exact⟨by have:=Yb _ d.Value (cZ _);have:=a4c d.Value;show(ny d.Value).length≤_;omega,λx hx=>by have:=ahU _ d.Value (cZ _) x hx;omega⟩
  ·refine⟨bg _,λy e=>?_⟩;rw[bf]at e;rw[←Option.some.inj e];exact⟨by simp,λx hx=>by cases hx⟩
 refine br hf.1 λy ey=>br (ai5 _ (by omega)) λb _=>br (cm (λ_=>bg _) λ_=>ai2 _ (hf.2 y ey).1 (hf.2 y ey).2) λc _=>cq (br (cm (λ_=>bg _) λ_=>ai3 _ _ (by unfold FU;omega) hv) λ_ _=>cm (λ_=>bg _) λ_=>br (ai4 _ (by omega)) λ_ _=>cm (λ_=>bg _) λ_=>br (cm (λ_=>Yc _ _) λ_=>bg _) λq _=>lS ?_ (lS ?_ (cq (cq (cm (λ_=>bg _) λ_=>bg _)))))
 ·intro h1 _;exact⟨by omega,zi h1⟩
 ·intro _ h1 _;have h2:=zi h1;unfold ln at h2⊢;rw[nu (by omega) (by omega)];omega
theorem a4e(s:a7)(hs:s.length≤1048576):Tt (Gi FU s):=by
 unfold Gi;exact br (cm (λ_=>Mj s hs) λ_=>bg _) λ_ _=>bg _
theorem ai6(rec:bM→iZ→Bool→Option Bool)(x:fA)(p:iZ)(hb:zS x≤1048576)(hr:∀c∈x.ae,∀p b,Tt (rec c p b)):Tt (JZ FU rec x p):=by
 have hz:=Ir x;have hl:=nX x.ae;have hC:∀d h,Tt (JY FU rec x.ae d h x.an x.bm x.Op x.Value x.Bg x.mB.A x.mB.B x.Of x.ae):=λd h=>by
  unfold JY O5;refine br (br (t0 _ x.ae (λkk i h1 h2 h3=>?_) (λkk i h=>?_) (by unfold FU;omega)) λ_ _=>jv λ_ _=>bg _) λ_ _=>bg _
  ·rw[JX,bX (by omega)];refine jj h1 (hQ h1 (br ?_ λ_ _=>cm (λ_=>bg _) λ_=>h3));unfold O2;exact br (hr _ h2 _ _) λ_ _=>bg _
  ·rw[JX];exact jk h
 unfold JZ
 with_reducible repeat' first|exact bg _|apply cq|(apply cm<;>intro _)|(apply br<;>try intro _ _)|apply lS|(apply jv;intro _ _)
 ·exact hC _ _
 ·exact a4e _ (by omega)
theorem ai7(rec:bM→iZ→Bool→Option Bool)(c:fZ)(p:iZ)(hb:zP c≤1048576)(hr:∀x∈c.bC,∀y∈x.ae,∀p b,Tt (rec y p b)):Tt (K3 FU rec c p):=by
 have hz:=Iq c;have hl:=nS c.bC;unfold K3;refine cq (br (cm (λ_=>a4e _ (by omega)) λ_=>bg _) λ_ _=>cq (cm (λ_=>bg _) λ_=>br (t0 (Gk FU rec c p) c.bC (λkk i h1 h2 h3=>?_) (λkk i h=>?_) (by unfold FU;omega)) λ_ _=>jv λ_ _=>cq (bg _)))
 ·have h4:=mS h2;rw[Gk,bX (by omega)];exact jj h1 (hQ h1 (br (ai6 rec _ p (by omega) (hr _ h2)) λ_ _=>cm (λ_=>bg _) λ_=>h3))
 ·rw[Gk];exact jk h
theorem ai8:∀(k:Nat)(c:bM)(p:iZ)(b:Bool),zX c<k→zX c≤1048576→Tt (Gn FU k c p b):=by
 intro k
 induction k with
 |zero=>intro c p b h;omega
 |succ k ih=>
  intro c p b hk hb;have hz:=M5 c;have hl:=nP c.bt;rw[Gn];refine cq (cq (cq (cm (λ_=>bg _) λ_=>br (t0 (Gl FU c) c.iM (λkk i h1 h2 h3=>?_) (λkk i h=>?_) (by unfold FU;omega)) λ_ _=>jv λ_ _=>br ?_ λ_ _=>bg _)))
  ·rw[Gl,bX (by omega)];exact jj h1 (hQ h1 (cq (cm (λ_=>bg _) λ_=>h3)))
  ·rw[Gl];exact jk h
  ·unfold O8 O7;refine br (br (t0 _ c.bt (λkk i h1 h2 h3=>?_) (λkk i h=>?_) (by unfold FU;omega)) λ_ _=>jv λ_ _=>bg _) λ_ _=>bg _
   ·have h4:=mP h2;have h5:=Iq (gi c.bt (i:Int));rw[K5,bX (by omega)];refine jj h1 (hQ h1 (br ?_ λ_ _=>cm (λ_=>bg _) λ_=>h3));unfold O6;exact br (ai7 _ _ _ (by omega) (λx hx y hy p b=>by
     have g1:=mS hx;have g2:=Ir x;have g3:=mX hy;exact ih y p b (by omega) (by omega))) λ_ _=>bg _
   ·rw[K5];exact jk h
theorem ai9:∀(k:Nat)(l:List bM),mQ l<k→mQ l≤1048576→Tt (rP FU k l):=by
 intro k
 induction k with
 |zero=>intro l h;omega
 |succ k ih=>
  intro l hk hb;have hl:=nX l;rw[rP];refine br (nx (λkk (a:Int) i=>BH FU l (rP FU k) kk a i) l (λ_ _=>True) (λkk i a h1 h2 _ h3=>?_) (λkk i a h=>?_) FU 0 (ln l) (by unfold FU;omega) trivial) λ_ _=>bg _
  ·have h4:=mX h2;have h5:=M5 (gi l (i:Int));have h6:=nP (gi l (i:Int)).bt;show Tt (BH FU l (rP FU k) (kk+1) a (i:Int));rw[BH,bX (by omega)];refine jj h1 (br (hQ h1 (nx (λkk (a:Int) j=>BG FU l (i:Int) (rP FU k) kk a j) (gi l (i:Int)).bt (λ_ _=>True) (λkk j a g1 g2 _ g3=>?_) (λkk j a h=>?_) FU 0 a (by unfold FU;omega) trivial)) λb _=>h3 b trivial)
   ·have g4:=mP g2;have g5:=Iq (gi (gi l (i:Int)).bt (j:Int));have g6:=nS (gi (gi l (i:Int)).bt (j:Int)).bC;show Tt (BG FU l (i:Int) (rP FU k) (kk+1) a (j:Int));rw[BG,bX (by omega)];refine jj g1 (br (hQ g1 (nx (λkk (a:Int) q=>BE FU l (i:Int) (j:Int) (rP FU k) kk a q) (gi (gi l (i:Int)).bt (j:Int)).bC (λ_ _=>True) (λkk q a e1 e2 _ e3=>?_) (λkk q a h=>?_) FU 0 a (by unfold FU;omega) trivial)) λb _=>g3 b trivial)
    ·have e4:=mS e2;have e5:=Ir (gi (gi (gi l (i:Int)).bt (j:Int)).bC (q:Int));show Tt (BE FU l (i:Int) (j:Int) (rP FU k) (kk+1) a (q:Int));rw[BE,bX (by omega)];exact cq (jj e1 (hQ e1 (cq (cq (cq (cq (cq (cq (cq (cq (br (ih _ (by omega) (by omega)) λy _=>e3 _ trivial)))))))))))
    ·show Tt (BE FU l (i:Int) (j:Int) (rP FU k) (kk+1) a (q:Int));rw[BE];exact cq (jk h)
   ·show Tt (BG FU l (i:Int) (rP FU k) (kk+1) a (j:Int));rw[BG];exact jk h
  ·show Tt (BH FU l (rP FU k) (kk+1) a (i:Int));rw[BH];exact jk h
theorem aia(l:List bM)(hb:mQ l≤1048576):Tt (K6 FU l):=by
 have hl:=nX l;unfold K6;refine br (cm (λ_=>bg _) λ_=>?_) λ_ _=>cm (λ_=>bg _) λ_=>br (ai9 _ l (by unfold FU;omega) hb) λ_ _=>cm (λ_=>bg _) λ_=>bg _;unfold Oc Oa;refine br (br (t0 (Gp FU l) l (λkk i h1 h2 h3=>?_) (λkk i h=>?_) (by unfold FU;omega)) λ_ _=>jv λ_ _=>bg _) λ_ _=>bg _
 ·have h4:=mX h2;rw[Gp,bX (by omega)];refine jj h1 (hQ h1 (br ?_ λ_ _=>cm (λ_=>bg _) λ_=>h3));unfold O9;exact br (ai8 _ _ _ _ (by unfold FU;omega) (by omega)) λ_ _=>bg _
 ·rw[Gp];exact jk h
theorem aib(s:a7)(hs:s.length≤1048576):Tt (Kq FU s):=by
 unfold Kq;refine br ?_ λ_ _=>br (cm (λ_=>Mj s hs) λ_=>bg _) λ_ _=>cq (cq (bg _));rw[M1 _ _ (by decide)];exact bg _
theorem aic(n:Int):Tt (Kr FU [n]):=by
 unfold Kr;refine br (t0 (GB FU [n]) [n] (λkk i h1 h2 h3=>?_) (λkk i h=>?_) (by simp;unfold FU;omega)) λ_ _=>jv λ_ _=>bg _
 ·rw[GB,bX (by simp at h1;omega)];refine jj h1 (hQ h1 ?_)
  with_reducible repeat' first|exact h3|exact bg _|apply cq|(apply cm<;>intro _)|(apply br<;>try intro _ _)|apply lS
 ·rw[GB];exact jk h
theorem a4f(c:bu)(hb:zC c≤1048576):Tt (GD FU c):=by
 have hz:=uq c;have hl:=nC c.ae;unfold GD;refine cq (cm (λ_=>bg _) λ_=>br (t0 (GC FU c) c.ae (λkk i h1 h2 h3=>?_) (λkk i h=>?_) (by unfold FU;omega)) λ_ _=>jv λ_ _=>bg _)
 ·have h4:=mC h2;have h5:=uq (gi c.ae (i:Int));rw[GC,bX (by omega)];refine jj h1 (br (hQ h1 ?_) λ_ _=>jv λ_ _=>h3)
  with_reducible repeat' first|exact bg _|apply cq|(apply cm<;>intro _)|(apply br<;>try intro _ _)|apply lS|(apply jv;intro _ _)
  ·exact aib _ (by omega)
  ·unfold Ox;exact br (aic _) λ_ _=>bg _
 ·rw[GC];exact jk h
theorem aid(c:bu):Tt (Ku c):=by
 unfold Ku;exact lS (λe=>⟨by omega,zi e⟩) (cq (bg _))
theorem Yd{α:Type}{l:List α}{b:Bool}(h:(cond b (ln l==1) false)=true):0≤(0:Int)∧(0:Int)<ln l:=by
 cases b
 ·cases h
 ·have:=eq_of_beq (show(ln l==1)=true from h);omega
theorem aie(c:bu)(hb:zC c≤1048576):Tt (Kv FU c):=by
 have hz:=uq c;unfold Kv;refine cm (λ_=>cq (lS (λh=>Yd h) (br (cm (λh=>a4f _ ?_) λ_=>bg _) λy _=>lS (λh=>?_) (br (cm (λ_=>aid _) λ_=>bg _) λ_ _=>bg _)))) λ_=>br (a4f c hb) λ_ _=>bg _
 ·have h1:=Yd h;have:gi c.ae (0:Int)∈c.ae:=qT (i:=0) (by unfold ln at h1;omega);have:=mC this;omega
 ·cases hx:(cond (nc c) (ln c.ae==1) false)
  ·rw[hx]at h;cases h
  ·exact Yd hx
theorem a4g(c:bu)(hb:zC c≤1048576):Tt (GG FU c):=by
 have hz:=uq c;have hl:=nC c.ae;unfold GG;refine cq (cq (cq (br (cm (λ_=>?_) λ_=>bg _) λ_ _=>cq (cm (λ_=>bg _) λ_=>bg _))));unfold OB OA;refine br (br (t0 (GF FU c.ae) c.ae (λkk i h1 h2 h3=>?_) (λkk i h=>?_) (by unfold FU;omega)) λ_ _=>jv λ_ _=>bg _) λ_ _=>bg _
 ·have h4:=mC h2;rw[GF,bX (by omega)];refine jj h1 (hQ h1 (br ?_ λ_ _=>cm (λ_=>bg _) λ_=>h3));unfold Oz;exact br (aie _ (by omega)) λ_ _=>bg _
 ·rw[GF];exact jk h
theorem Ye(v:List ax)(hb:cC v≤1048576):Tt (E8 FU v):=by
 unfold E8;rw[Qw FU (by decide) v hb,aW,show Ka FU v 0=_ from a3p FU (by decide) FU v 0 (by unfold FU;omega) hb];exact cm (λ_=>bg _) λ_=>br (bg _) λ_ _=>bg _
theorem aif:∀(k:Nat)(c:bu)(n:Int),zC c<k→zC c≤1048576→Tt (zK FU k c n):=by
 intro k
 induction k with
 |zero=>intro c n h;omega
 |succ k ih=>
  intro c n hk hb;have hz:=uq c;have hD:=CX c.aS;have hl:=nC c.ae;rw[zK];refine cm (λ_=>bg _) λ_=>cm (λ_=>br (Ye _ (by omega)) λ_ _=>cq (cq (br (cm (λ_=>a4d _ (by omega)) λ_=>bg _) λ_ _=>bg _))) λ_=>cm (λ_=>cq (bg _)) λ_=>br ?_ λ_ _=>cm (λ_=>cq (cq (cm (λ_=>bg _) λ_=>br (nx (λkk (a:Int×Int) i=>BP FU c (zK FU k) kk a.1 i a.2) c.ae (λ_ _=>True) (λkk i a h1 h2 _ h3=>?_) (λkk i a h=>?_) FU 0 (0,J (n+1)) (by unfold FU;omega) trivial) λ_ _=>jv λ_ _=>bg _))) λ_=>bg _
  ·with_reducible repeat' first|exact bg _|apply cq|(apply cm<;>intro _)|(apply br<;>try intro _ _)|apply lS|(apply jv;intro _ _)
  ·have h4:=mC h2;show Tt (BP FU c (zK FU k) (kk+1) a.1 (i:Int) a.2);rw[BP,bX (by omega)];refine jj h1 (hQ h1 (br (ih _ _ (by omega) (by omega)) λy _=>cm (λ_=>bg _) λ_=>br ?_ λz _=>h3 (_,_) trivial));exact cm (λ_=>bg _) λ_=>bg _
  ·show Tt (BP FU c (zK FU k) (kk+1) a.1 (i:Int) a.2);rw[BP];exact jk h
theorem Yf(c:bu)(hb:zC c≤1048576):Tt (Ek FU c):=by
 unfold Ek;exact br (aif _ c _ (by unfold FU;omega) hb) λ_ _=>cq (cm (λ_=>bg _) λ_=>bg _)
mutual
def AP:bu→List cT
 | .mk K _ _ D l=>cond (K==7) [D] (qp l)
def qp:List bu→List cT
 |[]=>[]
 |v::r=>AP v++qp r
end
theorem Yg(c:bu):AP c=cond (c.an==7) [c.aS] (qp c.ae):=by obtain⟨a,b,d,e,l⟩:=c;rw[AP];rfl
theorem a4h(n:Nat):∀c:bu,zC c≤n→(AP c).length≤zC c∧∀d∈AP c,zD d≤zC c:=by
 induction n using Nat.strongRecOn with
 |_ n ih=>
  intro c h;have hz:=uq c;have hD:=CX c.aS;have hl:∀l:List bu,(∀x∈l,zC x<n)→(qp l).length≤zL zC l∧∀d∈qp l,zD d≤zL zC l:=by
   intro l
   induction l with
   |nil=>intro _;rw[qp];exact⟨iv _,λd hd=>by cases hd⟩
   |cons v r Fe=>
    intro hm;have h1:=ih (zC v) (hm v List.mem_cons_self) v (cZ _);have h2:=Fe λx hx=>hm x (List.mem_cons_of_mem _ hx);rw[qp,zL,eU];refine⟨by omega,λd hd=>?_⟩;rcases List.mem_append.1 hd with hd|hd
    ·have:=h1.2 d hd;omega
    ·have:=h2.2 d hd;omega
  have hl:=hl c.ae (λx hx=>by have:=mC hx;omega);rw[←QD]at hl;rw[Yg];cases(c.an==7)
  ·refine⟨by have:=hl.1;rw[aX];omega,λd hd=>by have:=hl.2 d hd;omega⟩
  ·refine⟨by rw[bf,List.length_singleton];omega,λd hd=>?_⟩;rw[List.mem_singleton.1 hd];omega
theorem aih(l:List bu):(qp l).length≤tm l:=by
 induction l with
 |nil=>exact iv _
 |cons v r ih=>
  have:=(a4h _ v (cZ _)).1;rw[qp,tm,eU];omega
theorem a4i{l:List bu}{i:Nat}(h:i<l.length):qp (l.drop i)=AP (gi l (i:Int))++qp (l.drop (i+1)):=by
 rw[pq h,qp,←j6 l i h]
theorem aii(v:List ax)(i:Nat)(h:i<v.length):bN v (i:Int) (ax.mk (gi v (i:Int)).aY (gi v (i:Int)).ae)=v:=by
 have e:ax.mk (gi v (i:Int)).aY (gi v (i:Int)).ae=v[i]:=by
  rw[j6 v i h];obtain⟨t,l⟩:=v[i];rfl
 rw[e];unfold bN;rw[show((i:Int)).toNat=i from Int.toNat_natCast i,List.set_getElem_self]
theorem aij:∀(k:Nat)(v:List ax),cC v<k→cC v≤1048576→BR FU k v=some v:=by
 intro k
 induction k with
 |zero=>intro v h;omega
 |succ k ih=>
  intro v h hb;have hl:=qS v;have H:∀(kk i:Nat),v.length-i<kk→GK FU v (BR FU k) kk v (i:Int)=some v:=by
   intro kk
   induction kk with
   |zero=>intro i h;omega
   |succ kk Dv=>
    intro i h;rw[GK];by_cases h1:i<v.length
    ·have h3:=sb (qT h1);have h4:=qR (gi v (i:Int));rw[ie h1,bf,fy h1,ih _ (by omega) (by omega),aW,lt_eq,aii v i h1,bX (by omega),Dv (i+1) (by omega)]
    ·rw[gJ (by omega)];rfl
  rw[BR];unfold OI;rw[bP (by unfold ln;rw[fY];omega),lt_eq,aW];show Option.bind (GK FU v (BR FU k) FU v ((0:Nat):Int)) _=_;rw[H FU 0 (by unfold FU;omega)];rfl
theorem a4j:∀(v:List ax)(k:Nat),cC (v.drop k)≤cC v
 |[],k=>by simp
 |x::v,0=>cZ _
 |x::v,k+1=>by rw[List.drop_succ_cons,cC];have:=a4j v k;omega
theorem a4k:∀(v:List ax)(k:Nat),cC (v.take k)≤cC v
 |[],k=>by simp
 |x::v,0=>by simp[cC]
 |x::v,k+1=>by rw[List.take_succ_cons,cC,cC];have:=a4k v k;omega
theorem aik(v:List ax)(hl:v.length≤1048576):∀(kk i:Nat),v.length-i<kk→i≤v.length→∃z:Nat,GL FU v kk (i:Int)=some (z:Int)∧z≤v.length:=by
 intro kk
 induction kk with
 |zero=>intro i h;omega
 |succ kk ih=>
  intro i hk hi;rw[GL,bX (by omega)];by_cases h:i<v.length
  ·unfold GJ;rw[ie h,bf,fy h,aW,bf];cases(gi v (i:Int)).aY.an==13
   ·exact⟨i,rfl,hi⟩
   ·exact ih (i+1) (by omega) (by omega)
  ·rw[gJ (by omega)];exact⟨i,rfl,hi⟩
theorem ail(v:List ax)(hl:v.length≤1048576)(z:Nat):∀(kk j:Nat),j<kk→z≤j→j≤v.length→∃y:Nat,GM FU v (z:Int) kk (j:Int)=some (y:Int)∧z≤y∧y≤v.length:=by
 intro kk
 induction kk with
 |zero=>intro j h;omega
 |succ kk ih=>
  intro j hk hz hj;rw[GM];by_cases h:z<j
  ·have e:J ((j:Int)-1)=((j-1:Nat):Int):=nu (by omega) (by omega);unfold GJ;rw[show decide ((z:Int)<(j:Int))=true from eR (by omega),bf,e,fy (by omega),aW,bf];cases(gi v ((j-1:Nat):Int)).aY.an==13
   ·exact⟨j,rfl,hz,hj⟩
   ·exact ih (j-1) (by omega) (by omega) (by omega)
  ·rw[show decide ((z:Int)<(j:Int))=false from du (by omega)];exact⟨j,rfl,hz,hj⟩
theorem aim(v:List ax)(hb:cC v≤1048576):∃y,KC FU v=some y∧cC y.1≤cC v:=by
 have hl:=qS v;unfold KC;rw[Qw FU (by decide) v hb,aW];cases(Ff v !=0)
 ·obtain⟨z,e1,h1⟩:=aik v (by omega) FU 0 (by unfold FU;omega) (iv _);obtain⟨y,e2,h2,h3⟩:=ail v (by omega) z FU v.length (by unfold FU;omega) h1 (cZ _);have tH:GL FU v FU 0=some (z:Int):=e1;have Mk:GM FU v (z:Int) FU (ln v)=some (y:Int):=e2;have hs:cC (fE v (z:Int) (y:Int))≤cC v:=by
   rw[fE];exact Nat.le_trans (a4k _ _) (a4j _ _)
  rw[aX,tH,aW,Mk,aW,bP (by unfold ln;omega),lt_eq];unfold UM;rw[aij FU _ (by unfold FU;omega) (by omega),aW];exact⟨_,rfl,hs⟩
 ·exact⟨_,rfl,by simp[cC]⟩
abbrev Dk(d:cT):Prop:=d.bm.length≤1048576∧cC d.Value≤1048576
theorem a4l:∀(k:Nat)(c:bu),zC c<k→zC c≤1048576→∃ds,BS FU k c=some ds∧ds.length=(AP c).length∧∀d∈ds,Dk d:=by
 intro k
 induction k with
 |zero=>intro c h;omega
 |succ k ih=>
  intro c hk hb;have hz:=uq c;have hD:=CX c.aS;have hl:=nC c.ae;have hd:=aih c.ae;rw[BS,Yg];cases c.an==7
  ·have L:∀(kk i:Nat)(a:List cT),c.ae.length-i<kk→a.length+(qp (c.ae.drop i)).length≤1048576→(∀d∈a,Dk d)→∃ds,GN FU c (BS FU k) kk a (i:Int)=some ds∧ds.length=a.length+(qp (c.ae.drop i)).length∧∀d∈ds,Dk d:=by
    intro kk
    induction kk with
    |zero=>intro i a h;omega
    |succ kk Yh=>
     intro i a h ha hq;rw[GN];by_cases hi:i<c.ae.length
     ·have h1:=mC (qT hi);obtain⟨ds,e,g1,g2⟩:=ih (gi c.ae (i:Int)) (by omega) (by omega);rw[a4i hi,eU]at ha⊢;rw[ie hi,bf,fy hi,e,aW,bP (by unfold ln;omega),lt_eq,bX (by omega)];obtain⟨ds2,e2,g3,g4⟩:=Yh (i+1) (a++ds) (by omega) (by rw[eU];omega) (λd hd=>by
       rcases List.mem_append.1 hd with hd|hd
       ·exact hq d hd
       ·exact g2 d hd)
      exact⟨ds2,e2,by rw[g3,eU];omega,g4⟩
     ·rw[gJ (by omega),aX,zh (by omega)];exact⟨a,rfl,by rw[qp];rfl,hq⟩
   obtain⟨ds,e,g1,g2⟩:=L FU 0 [] (by unfold FU;omega) (by rw[o5];simp;omega) (λd hd=>by cases hd);have e':GN FU c (BS FU k) FU ([]:List cT) 0=some ds:=e;rw[aX,aX,e',aW];exact⟨ds,rfl,by rw[g1,o5];simp,g2⟩
  ·obtain⟨y,e,g⟩:=aim c.aS.Value (by omega);rw[bf,bf,e,aW];exact⟨_,rfl,rfl,λd hd=>by rw[List.mem_singleton.1 hd];exact⟨by show c.aS.bm.length≤_;omega,by show cC y.1≤_;omega⟩⟩
theorem ain(w:Int)(iu:List Bool)(hy:iu.length≤1048576):∀(k:Nat)(c:bu)(n:Nat),zC c<k→zC c≤1048576→n+(AP c).length≤iu.length→∃(b:Bool)(n':Nat),Ac FU k c w (n:Int) iu=some (b,(n':Int))∧n'≤n+(AP c).length:=by
 intro k
 induction k with
 |zero=>intro c n h;omega
 |succ k ih=>
  intro c n hk hb hn;have hz:=uq c;have hl:=nC c.ae;rw[Ac,lt_eq];cases c.an==4 with
  |true=>exact⟨_,n,rfl,by omega⟩
  |false=>
   rw[aX];cases c.an==5 with
   |true=>exact⟨_,n,rfl,by omega⟩
   |false=>
    rw[aX];cases c.an==6 with
    |true=>exact⟨_,n,rfl,by omega⟩
    |false=>
     rw[aX];rw[Yg]at hn⊢;cases h7:c.an==7 with
     |true=>
      rw[h7]at hn;rw[bf]at hn⊢;rw[List.length_singleton]at hn;unfold Pd;have e:J (J ((n:Int)+1)-1)=(n:Int):=by rw[bX (by omega),nu (by omega) (by omega)];rfl
      rw[bf,e,fy (by omega),aW,bX (by omega)];exact⟨_,n+1,rfl,by simp⟩
     |false=>
      rw[h7]at hn;rw[aX]at hn⊢;rw[aX];cases c.an==8 with
      |true=>exact⟨_,n,rfl,by omega⟩
      |false=>
       have L:∀(kk i n:Nat)(a b:Bool),c.ae.length-i<kk→n+(qp (c.ae.drop i)).length≤iu.length→∃(a' b':Bool)(n':Nat),Hv FU c w iu (Ac FU k) kk a b (i:Int) (n:Int)=some (a',b',(n':Int))∧n'≤n+(qp (c.ae.drop i)).length:=by
        intro kk
        induction kk with
        |zero=>intro i n a b h;omega
        |succ kk Yh=>
         intro i n a b h hn;rw[Hv];by_cases hi:i<c.ae.length
         ·have h1:=mC (qT hi);rw[a4i hi,eU]at hn⊢;obtain⟨x,n1,e,g1⟩:=ih (gi c.ae (i:Int)) n (by omega) (by omega) (by omega);rw[ie hi,bf,fy hi,e,aW,bX (by omega)];obtain⟨a',b',n',e2,g2⟩:=Yh (i+1) n1 (cond a x false) (cond b true x) (by omega) (by omega);exact⟨a',b',n',e2,by omega⟩
         ·rw[gJ (by omega),aX];exact⟨a,b,n,rfl,by omega⟩
       obtain⟨a',b',n',e,g⟩:=L FU 0 n true false (by unfold FU;omega) (by rw[o5];exact hn);rw[o5]at g;have e':Hv FU c w iu (Ac FU k) FU true false 0 (n:Int)=some (a',b',(n':Int)):=e;rw[aX,e',aW];dsimp only;cases c.an==1 with
       |true=>exact⟨_,n',rfl,g⟩
       |false=>
        rw[aX];cases c.an==2 with
        |true=>exact⟨_,n',rfl,g⟩
        |false=>exact⟨_,n',rfl,g⟩
theorem aio(c:bu)(e:jm)(iu:List Bool)(hb:zC c≤1048576)(hw:e.cI≤1000000000)(hy:iu.length≤1048576):Tt (Lo FU c e iu):=by
 unfold Lo Pc;refine br (br (a4g c hb) λ_ _=>cm (λ_=>br (Yf c hb) λ_ _=>bg _) λ_=>bg _) λ_ _=>cm (λ_=>bg _) λ_=>cm (λ_=>bg _) λ_=>lS (du (by omega)) ?_;obtain⟨ds,e1,g1,g2⟩:=a4l FU c (by unfold FU;omega) hb;unfold KD;rw[e1,aW];refine cq (cm (λ_=>bg _) λh=>?_);have hn:ln iu=ln ds:=by
  cases hx:(ln iu !=ln ds)
  ·simpa using hx
  ·rw[hx]at h;revert h;cases decide (1000000000<e.cI)<;>intro h<;>cases h
 obtain⟨b,n',e2,_⟩:=ain (J (1000*e.cI)) iu hy FU c 0 (by unfold FU;omega) hb (by unfold ln at hn;omega);unfold VS;have Mk:Ac FU FU c (J (1000*e.cI)) 0 iu=some (b,(n':Int)):=e2;rw[Mk];exact bg _
theorem aip(r:bA)(e:jm)(hb:zR r≤1048576)(hw:e.cI≤1000000000):Tt (Ae FU r e):=by
 have hz:=M6 r;unfold Ae;have K:Tt (cond (r.an==3) (Option.bind (Ep FU r.aT) λgY=>Ce FU gY FU ([]:List Bool) 0) (cond (r.an==2) (some (.inr ([]:List Bool))) (some (.inl true))))∧∀z,cond (r.an==3) (Option.bind (Ep FU r.aT) λgY=>Ce FU gY FU ([]:List Bool) 0) (cond (r.an==2) (some (.inr ([]:List Bool))) (some (.inl true)))=some z→match z with| .inl _=>True| .inr s=>s.length≤1048576:=by
  cases r.an==3
  ·rw[aX];cases r.an==2
   ·exact⟨bg _,λz h=>by rw[←Option.some.inj h];trivial⟩
   ·exact⟨bg _,λz h=>by rw[←Option.some.inj h];simp⟩
  ·rw[bf];have D:∃ds x,Ep FU r.aT=some (ds,x)∧ds.length≤1048576∧∀d∈ds,Dk d:=by
    unfold Ep;obtain⟨s,es⟩:=Yf r.aT (by omega);rw[es,aW];cases(s !=0)
    ·obtain⟨ds,e1,g1,g2⟩:=a4l FU r.aT (by unfold FU;omega) (by omega);have:=(a4h _ r.aT (cZ _)).1;unfold KD;rw[aX,e1,aW];exact⟨ds,0,rfl,by omega,g2⟩
    ·exact⟨[],s,rfl,by simp,λd hd=>by cases hd⟩
   obtain⟨ds,x,eD,gl,gq⟩:=D;rw[eD,aW];have L:∀(kk i:Nat)(a:List Bool),ds.length-i<kk→i≤ds.length→a.length=i→∃s:List Bool,Ce FU (ds,x) kk a (i:Int)=some (.inr s)∧s.length=ds.length:=by
    intro kk
    induction kk with
    |zero=>intro i a h;omega
    |succ kk ih=>
     intro i a h hi ha;rw[Ce];dsimp only;by_cases h1:i<ds.length
     ·have q:=gq _ (qT h1);rw[ie h1,bf,fy h1,agy _ q.1 q.2,aW,bP (by simp only[ln,List.length_singleton];omega),lt_eq,bX (by omega)];exact ih (i+1) _ (by omega) (by omega) (by rw[eU,ha];rfl)
     ·rw[gJ (by omega),aX];exact⟨a,rfl,by omega⟩
   obtain⟨s,e1,g1⟩:=L FU 0 [] (by unfold FU;omega) (iv _) rfl;have tH:Ce FU (ds,x) FU ([]:List Bool) 0=some (.inr s):=e1;rw[tH];exact⟨bg _,λz h=>by rw[←Option.some.inj h];show s.length≤_;omega⟩
 refine br K.1 λz uv=>?_;have:=K.2 z uv;cases z with
 |inl a=>exact⟨a,rfl⟩
 |inr s=>exact br (aio r.aT e s (by omega) hw this) λ_ _=>bg _
theorem aiq(l:List a7)(hl:l.length≤1048576):Tt (JO FU l):=by
 unfold JO NY NX;refine cq (br (cm (λ_=>br (br (t0 (Gf FU l) l (λkk i h1 h2 h3=>?_) (λkk i h=>?_) (by unfold FU;omega)) λ_ _=>jv λ_ _=>bg _) λ_ _=>bg _) λ_=>bg _) λ_ _=>bg _)
 ·rw[Gf,bX (by omega)];exact jj h1 (hQ h1 (cm (λ_=>bg _) λ_=>h3))
 ·rw[Gf];exact jk h
theorem a4m:∀l:List a7,l.length≤(l.map λx=>x.length+1).sum
 |[]=>cZ _
 |x::l=>by have:=a4m l;rw[List.map_cons,List.sum_cons,eF];omega
theorem air(l:List (List a7))(hb:jX l≤1048576):Tt (JP FU l):=by
 have hl:=nN l;unfold JP O0;refine br (br (t0 (Gg FU l) l (λkk i h1 h2 h3=>?_) (λkk i h=>?_) (by unfold FU;omega)) λ_ _=>jv λ_ _=>bg _) λ_ _=>bg _
 ·have h4:=mN h2;rw[Gg,bX (by omega)];refine jj h1 (hQ h1 (br ?_ λ_ _=>cm (λ_=>bg _) λ_=>h3));unfold NZ;have h5:=a4m (gi l (i:Int));exact br (aiq _ (by unfold tp at h4;omega)) λ_ _=>bg _
 ·rw[Gg];exact jk h
theorem ais:∀(k:Nat)(l:List bM),mQ l<k→mQ l≤1048576→Tt (rK FU k l):=by
 intro k
 induction k with
 |zero=>intro l h;omega
 |succ k ih=>
  intro l hk hb;have hl:=nX l;rw[rK];refine br (nx (λkk (a:Int) i=>Bz FU l (rK FU k) kk a i) l (λ_ _=>True) (λkk i a h1 h2 _ h3=>?_) (λkk i a h=>?_) FU 0 0 (by unfold FU;omega) trivial) λ_ _=>bg _
  ·have h4:=mX h2;have h5:=M5 (gi l (i:Int));have h6:=nP (gi l (i:Int)).bt;show Tt (Bz FU l (rK FU k) (kk+1) a (i:Int));rw[Bz,bX (by omega)];refine jj h1 (br (hQ h1 (nx (λkk (a:Int) j=>Bx FU l (i:Int) (rK FU k) kk a j) (gi l (i:Int)).bt (λ_ _=>True) (λkk j a g1 g2 _ g3=>?_) (λkk j a h=>?_) FU 0 a (by unfold FU;omega) trivial)) λb _=>h3 b trivial)
   ·have g4:=mP g2;have g5:=Iq (gi (gi l (i:Int)).bt (j:Int));have g6:=nS (gi (gi l (i:Int)).bt (j:Int)).bC;show Tt (Bx FU l (i:Int) (rK FU k) (kk+1) a (j:Int));rw[Bx,bX (by omega)];refine jj g1 (br (hQ g1 (nx (λkk (a:Int) q=>Bs FU l (i:Int) (j:Int) (rK FU k) kk a q) (gi (gi l (i:Int)).bt (j:Int)).bC (λ_ _=>True) (λkk q a e1 e2 _ e3=>?_) (λkk q a h=>?_) FU 0 a (by unfold FU;omega) trivial)) λb _=>g3 b trivial)
    ·have e4:=mS e2;have e5:=Ir (gi (gi (gi l (i:Int)).bt (j:Int)).bC (q:Int));show Tt (Bs FU l (i:Int) (j:Int) (rK FU k) (kk+1) a (q:Int));rw[Bs,bX (by omega)];refine cq (jj e1 (br (hQ e1 ?_) λy _=>e3 _ trivial))
     with_reducible repeat' first|exact bg _|apply cq|(apply cm<;>intro _)|(apply br<;>try intro _ _)|apply lS|(apply jv;intro _ _)
     exact ih _ (by omega) (by omega)
    ·show Tt (Bs FU l (i:Int) (j:Int) (rK FU k) (kk+1) a (q:Int));rw[Bs];exact cq (jk h)
   ·show Tt (Bx FU l (i:Int) (rK FU k) (kk+1) a (j:Int));rw[Bx];exact jk h
  ·show Tt (Bz FU l (rK FU k) (kk+1) a (i:Int));rw[Bz];exact jk h
theorem ait:∀(k:Nat)(c:bu),zC c<k→zC c≤1048576→Tt (zI FU k c):=by
 intro k
 induction k with
 |zero=>intro c h;omega
 |succ k ih=>
  intro c hk hb;have hz:=uq c;have hl:=nC c.ae;rw[zI];refine br (cm (λ_=>bg _) λ_=>bg _) λz _=>br (nx (λkk (a:Int) i=>BN FU c (zI FU k) kk a i) c.ae (λ_ _=>True) (λkk i a h1 h2 _ h3=>?_) (λkk i a h=>?_) FU 0 z (by unfold FU;omega) trivial) λ_ _=>bg _
  ·have h4:=mC h2;show Tt (BN FU c (zI FU k) (kk+1) a (i:Int));rw[BN,bX (by omega)];exact jj h1 (hQ h1 (br (ih _ (by omega) (by omega)) λ_ _=>h3 _ trivial))
  ·show Tt (BN FU c (zI FU k) (kk+1) a (i:Int));rw[BN];exact jk h
theorem aiu:∀(k:Nat)(c:bu),zC c<k→zC c≤1048576→Tt (zJ FU k c):=by
 intro k
 induction k with
 |zero=>intro c h;omega
 |succ k ih=>
  intro c hk hb;have hz:=uq c;have hD:=CX c.aS;have hl:=nC c.ae;rw[zJ];refine cm (λ_=>br (Ye _ (by omega)) λ_ _=>bg _) λ_=>cm (λ_=>bg _) λ_=>br (nx (λkk (a:Int) i=>BO FU c (zJ FU k) kk a i) c.ae (λ_ _=>True) (λkk i a h1 h2 _ h3=>?_) (λkk i a h=>?_) FU 0 0 (by unfold FU;omega) trivial) λ_ _=>bg _
  ·have h4:=mC h2;show Tt (BO FU c (zJ FU k) (kk+1) a (i:Int));rw[BO,bX (by omega)];exact jj h1 (hQ h1 (br (ih _ (by omega) (by omega)) λ_ _=>br (cq (cm (λ_=>bg _) λ_=>bg _)) λ_ _=>h3 _ trivial))
  ·show Tt (BO FU c (zJ FU k) (kk+1) a (i:Int));rw[BO];exact jk h
theorem aiv(l:List bA)(i:Nat)(y:Int)(hb:sa (gi l (i:Int)).cP≤1048576)(b:Bool)(d:Int):Tt (zN FU l (i:Int) y FU b 0 d):=by
 have hl:=nD (gi l (i:Int)).cP;refine nx (λkk (a:Bool×Int) j=>zN FU l (i:Int) y kk a.1 j a.2) (gi l (i:Int)).cP (λ_ _=>True) (λkk j a h1 h2 _ h3=>?_) (λkk j a h=>?_) FU 0 (b,d) (by unfold FU;omega) trivial
 ·have h4:=mD h2;have h5:=CX (gi (gi l (i:Int)).cP (j:Int));show Tt (zN FU l (i:Int) y (kk+1) a.1 (j:Int) a.2);rw[zN,bX (by omega)];exact jj h1 (hQ h1 (br (Ye _ (by omega)) λ_ _=>br (cm (λ_=>bg _) λ_=>a4d _ (by omega)) λ_ _=>cq (h3 (_,_) trivial)))
 ·show Tt (zN FU l (i:Int) y (kk+1) a.1 (j:Int) a.2);rw[zN];exact jk h
theorem aiw:∀(k:Nat)(l:List bA),dU l<k→dU l≤1048576→Tt (zW FU k l):=by
 intro k
 induction k with
 |zero=>intro l h;omega
 |succ k ih=>
  intro l hk hb;have hl:=nR l;rw[zW];refine br (nx (λkk (a:Int×Int×Bool) i=>BQ FU l (zW FU k) kk i a.1 a.2.1 a.2.2) l (λ_ _=>True) (λkk i a h1 h2 _ h3=>?_) (λkk i a h=>?_) FU 0 (0,0,false) (by unfold FU;omega) trivial) λ_ _=>bg _
  ·have h4:=mR h2;have h5:=M6 (gi l (i:Int));show Tt (BQ FU l (zW FU k) (kk+1) (i:Int) a.1 a.2.1 a.2.2);rw[BQ,bX (by omega)];refine jj h1 (br (hQ h1 (br (ih _ (by omega) (by omega)) λy _=>cq (br (air _ (by omega)) λn _=>br ?_ λz _=>cq (bg _)))) λz _=>h3 (z.1,z.2.1,z.2.2) trivial);refine cm (λ_=>?_) λ_=>cm (λ_=>?_) λ_=>cm (λ_=>?_) λ_=>cm (λ_=>cq (cq (cq (bg _)))) λ_=>cm (λ_=>cq (cq (cq (cq (cq (bg _)))))) λ_=>bg _
   ·exact br (ais FU _ (by unfold FU;omega) (by omega)) λ_ _=>br (cm (λ_=>bg _) λ_=>aia _ (by omega)) λ_ _=>cq (cq (cq (cq (aiv l i _ (by omega) _ _))))
   ·exact br (ait FU _ (by unfold FU;omega) (by omega)) λ_ _=>cq (cq (br (cm (λ_=>bg _) λ_=>a4g _ (by omega)) λ_ _=>bg _))
   ·exact br (aiu FU _ (by unfold FU;omega) (by omega)) λ_ _=>cq (cq (br (cm (λ_=>bg _) λ_=>Yf _ (by omega)) λ_ _=>bg _))
  ·show Tt (BQ FU l (zW FU k) (kk+1) (i:Int) a.1 a.2.1 a.2.2);rw[BQ];exact jk h
theorem aix(s:sE)(hb:dU s.bo≤1048576):Tt (GI FU s):=by
 unfold GI OH;exact br (br (aiw FU _ (by unfold FU;omega) hb) λ_ _=>cq (cm (λ_=>bg _) λ_=>bg _)) λ_ _=>bg _
theorem a4n(s:cQ):zO s=dU s.dm.bo+4:=by unfold zO;omega
theorem a4o(l:List cQ)(hb:gC l≤1048576):Tt (rT FU l):=by
 have hl:=nO l;unfold rT;refine cm (λ_=>bg _) λ_=>br (t0 (sX FU l) l (λkk i h1 h2 h3=>?_) (λkk i h=>?_) (by unfold FU;omega)) λ_ _=>jv λ_ _=>bg _
 ·have h4:=mO h2;rw[a4n]at h4;rw[sX,bX (by omega)];exact jj h1 (hQ h1 (cq (br (cm (λ_=>bg _) λ_=>aix _ (by show dU (gi l (i:Int)).dm.bo≤_;omega)) λ_ _=>cm (λ_=>bg _) λ_=>h3)))
 ·rw[sX];exact jk h
theorem a4p:∀(k:Nat)(l:List bA),dU l<k→dU l≤1048576→Tt (AD FU k l):=by
 intro k
 induction k with
 |zero=>intro l h;omega
 |succ k ih=>
  intro l hk hb;have hl:=nR l;rw[AD];refine br (nx (λkk (a:Int) i=>CQ FU l (AD FU k) kk a i) l (λ_ _=>True) (λkk i a h1 h2 _ h3=>?_) (λkk i a h=>?_) FU 0 (ln l) (by unfold FU;omega) trivial) λ_ _=>bg _
  ·have h4:=mR h2;have h5:=M6 (gi l (i:Int));show Tt (CQ FU l (AD FU k) (kk+1) a (i:Int));rw[CQ,bX (i:=i) (by omega)];exact jj h1 (hQ h1 (br (ih _ (by omega) (by omega)) λ_ _=>h3 _ trivial))
  ·show Tt (CQ FU l (AD FU k) (kk+1) a (i:Int));rw[CQ];exact jk h
theorem aiy:∀(k:Nat)(l:List bM)(q:Int),mQ l<k→mQ l≤1048576→Tt (s9 FU k l q):=by
 intro k
 induction k with
 |zero=>intro l q h;omega
 |succ k ih=>
  intro l q hk hb;have hl:=nX l;rw[s9];refine br (nx (λkk (a:Int) i=>CL FU l q (s9 FU k) kk a i) l (λ_ _=>True) (λkk i a h1 h2 _ h3=>?_) (λkk i a h=>?_) FU 0 0 (by unfold FU;omega) trivial) λ_ _=>bg _
  ·have h4:=mX h2;have h5:=M5 (gi l (i:Int));have h6:=nP (gi l (i:Int)).bt;show Tt (CL FU l q (s9 FU k) (kk+1) a (i:Int));rw[CL,bX (i:=i) (by omega)];refine cq (cm (λ_=>br (hQ h1 (cq (nx (λkk (a:Int) j=>CK FU l q (i:Int) (s9 FU k) kk a j) (gi l (i:Int)).bt (λ_ _=>True) (λkk j a g1 g2 _ g3=>?_) (λkk j a h=>?_) FU 0 _ (by unfold FU;omega) trivial))) λb _=>h3 b trivial) λ_=>bg _)
   ·have g4:=mP g2;have g5:=Iq (gi (gi l (i:Int)).bt (j:Int));have g6:=nS (gi (gi l (i:Int)).bt (j:Int)).bC;show Tt (CK FU l q (i:Int) (s9 FU k) (kk+1) a (j:Int));rw[CK,bX (i:=j) (by omega)];refine cq (cm (λ_=>br (hQ g1 (cq (nx (λkk (a:Int) w=>CI FU l q (i:Int) (j:Int) (s9 FU k) kk a w) (gi (gi l (i:Int)).bt (j:Int)).bC (λ_ _=>True) (λkk w a e1 e2 _ e3=>?_) (λkk w a h=>?_) FU 0 _ (by unfold FU;omega) trivial))) λb _=>g3 b trivial) λ_=>bg _)
    ·have e4:=mS e2;have e5:=Ir (gi (gi (gi l (i:Int)).bt (j:Int)).bC (w:Int));show Tt (CI FU l q (i:Int) (j:Int) (s9 FU k) (kk+1) a (w:Int));rw[CI,bX (i:=w) (by omega)];exact cq (cm (λ_=>hQ e1 (cq (cq (br (ih _ _ (by omega) (by omega)) λ_ _=>cq (e3 _ trivial))))) λ_=>bg _)
    ·show Tt (CI FU l q (i:Int) (j:Int) (s9 FU k) (kk+1) a (w:Int));rw[CI,gJ h];exact⟨_,rfl⟩
   ·show Tt (CK FU l q (i:Int) (s9 FU k) (kk+1) a (j:Int));rw[CK,gJ h];exact⟨_,rfl⟩
  ·show Tt (CL FU l q (s9 FU k) (kk+1) a (i:Int));rw[CL,gJ h];exact⟨_,rfl⟩
theorem aiz:∀(k:Nat)(v:List ax)(q:Int),cC v<k→cC v≤1048576→Tt (Az FU k v q):=by
 intro k
 induction k with
 |zero=>intro v q h;omega
 |succ k ih=>
  intro v q hk hb;have hl:=qS v;rw[Az];refine br (nx (λkk (a:Int) i=>CM FU v q (Az FU k) kk a i) v (λ_ _=>True) (λkk i a h1 h2 _ h3=>?_) (λkk i a h=>?_) FU 0 0 (by unfold FU;omega) trivial) λ_ _=>bg _
  ·have h4:=sb h2;have h5:=qR (gi v (i:Int));show Tt (CM FU v q (Az FU k) (kk+1) a (i:Int));rw[CM,bX (i:=i) (by omega)];exact cq (cm (λ_=>hQ h1 (cq (br (ih _ _ (by omega) (by omega)) λ_ _=>h3 _ trivial))) λ_=>bg _)
  ·show Tt (CM FU v q (Az FU k) (kk+1) a (i:Int));rw[CM,gJ h];exact⟨_,rfl⟩
theorem aiA:∀(k:Nat)(v:List ax),cC v<k→cC v≤1048576→Tt (AA FU k v):=by
 intro k
 induction k with
 |zero=>intro v h;omega
 |succ k ih=>
  intro v hk hb;have hl:=qS v;rw[AA];refine br (nx (λkk (a:Int) i=>CN FU v (AA FU k) kk a i) v (λ_ _=>True) (λkk i a h1 h2 _ h3=>?_) (λkk i a h=>?_) FU 0 0 (by unfold FU;omega) trivial) λ_ _=>bg _
  ·have h4:=sb h2;have h5:=qR (gi v (i:Int));show Tt (CN FU v (AA FU k) (kk+1) a (i:Int));rw[CN,bX (i:=i) (by omega)];exact jj h1 (br (hQ h1 (cq (cm (λ_=>br (ih _ (by omega) (by omega)) λ_ _=>cq (bg _)) λ_=>bg _))) λ_ _=>h3 _ trivial)
  ·show Tt (CN FU v (AA FU k) (kk+1) a (i:Int));rw[CN];exact jk h
theorem a4q(l:List cT)(hb:sa l≤1048576):Tt (Ih FU l):=by
 have hl:=nD l;unfold Ih;refine cm (λ_=>bg _) λ_=>br (nx (λkk (a:Int) i=>CO FU l kk a i) l (λ_ _=>True) (λkk i a h1 h2 _ h3=>?_) (λkk i a h=>?_) FU 0 0 (by unfold FU;omega) trivial) λ_ _=>jv λ_ _=>bg _
 ·have h4:=mD h2;have h5:=CX (gi l (i:Int));show Tt (CO FU l (kk+1) a (i:Int));rw[CO,bX (i:=i) (by omega)];exact jj h1 (hQ h1 (br (aiz FU _ _ (by unfold FU;omega) (by omega)) λ_ _=>cq (br (cm (λ_=>bg _) λ_=>aiA FU _ (by unfold FU;omega) (by omega)) λ_ _=>cq (cm (λ_=>bg _) λ_=>h3 _ trivial))))
 ·show Tt (CO FU l (kk+1) a (i:Int));rw[CO];exact jk h
theorem aiB:∀(k:Nat)(c:bu)(q:Int),zC c<k→zC c≤1048576→Tt (AB FU k c q):=by
 intro k
 induction k with
 |zero=>intro c q h;omega
 |succ k ih=>
  intro c q hk hb;have hz:=uq c;have hl:=nC c.ae;rw[AB];refine br (nx (λkk (a:Int) i=>CP FU c q (AB FU k) kk a i) c.ae (λ_ _=>True) (λkk i a h1 h2 _ h3=>?_) (λkk i a h=>?_) FU 0 1 (by unfold FU;omega) trivial) λ_ _=>bg _
  ·have h4:=mC h2;show Tt (CP FU c q (AB FU k) (kk+1) a (i:Int));rw[CP,bX (i:=i) (by omega)];exact cq (cm (λ_=>hQ h1 (br (ih _ _ (by omega) (by omega)) λ_ _=>h3 _ trivial)) λ_=>bg _)
  ·show Tt (CP FU c q (AB FU k) (kk+1) a (i:Int));rw[CP,gJ h];exact⟨_,rfl⟩
theorem aiC:∀(k:Nat)(c:bu),zC c<k→zC c≤1048576→Tt (F6 FU k c):=by
 intro k
 induction k with
 |zero=>intro c h;omega
 |succ k ih=>
  intro c hk hb;have hz:=uq c;have hl:=nC c.ae;rw[F6];refine br (a4q _ (by rw[sa,sa];omega)) λ_ _=>cq (cm (λ_=>bg _) λ_=>br (t0 (Ii FU c (F6 FU k)) c.ae (λkk i h1 h2 h3=>?_) (λkk i h=>?_) (by unfold FU;omega)) λ_ _=>jv λ_ _=>bg _)
  ·have h4:=mC h2;rw[Ii,bX (i:=i) (by omega)];exact jj h1 (hQ h1 (br (ih _ (by omega) (by omega)) λ_ _=>cm (λ_=>bg _) λ_=>h3))
  ·rw[Ii];exact jk h
theorem aiD:∀(k:Nat)(l:List bA)(q:Int),dU l<k→dU l≤1048576→Tt (F7 FU k l q):=by
 intro k
 induction k with
 |zero=>intro l q h;omega
 |succ k ih=>
  intro l q hk hb;have hl:=nR l;rw[F7];refine cq (cm (λ_=>bg _) λ_=>br (t0 (Ik FU l q (F7 FU k)) l (λkk i h1 h2 h3=>?_) (λkk i h=>?_) (by unfold FU;omega)) λ_ _=>jv λ_ _=>bg _)
  ·have h4:=mR h2;have h5:=M6 (gi l (i:Int));have l2:=nN (gi l (i:Int)).bI;rw[Ik,bX (i:=i) (by omega)];refine jj h1 (br (hQ h1 (br ?_ λ_ _=>br (cm (λ_=>bg _) λ_=>a4q _ (by omega)) λ_ _=>br (cm (λ_=>bg _) λ_=>?_) λ_ _=>cq (br (cm (λ_=>bg _) λ_=>ih _ _ (by omega) (by omega)) λ_ _=>cm (λ_=>bg _) λ_=>t0 (Ij FU l (i:Int)) (gi l (i:Int)).bI (λkk j e1 e2 e3=>?_) (λkk j h=>?_) (by unfold FU;omega)))) λ_ _=>jv λ_ _=>h3)
   ·unfold Qo;exact br (aiy FU _ _ (by unfold FU;omega) (by omega)) λ_ _=>bg _
   ·unfold Qp;exact br (aiB FU _ _ (by unfold FU;omega) (by omega)) λ_ _=>br (cm (λ_=>bg _) λ_=>aiC FU _ (by unfold FU;omega) (by omega)) λ_ _=>bg _
   ·rw[Ij,bX (i:=j) (by omega)];exact jj e1 (hQ e1 (cq (cm (λ_=>bg _) λ_=>e3)))
   ·rw[Ij];exact jk h
  ·rw[Ik];exact jk h
theorem a4r(l:List cQ)(hb:gC l≤1048576):Tt (CS FU l):=by
 have hl:=nO l;unfold CS;refine br (nx (λkk (a:Int) i=>CR FU l kk a i) l (λ_ _=>True) (λkk i a h1 h2 _ h3=>?_) (λkk i a h=>?_) FU 0 0 (by unfold FU;omega) trivial) λ_ _=>jv λ_ _=>cq (bg _)
 ·have h4:=mO h2;rw[a4n]at h4;show Tt (CR FU l (kk+1) a (i:Int));rw[CR,bX (i:=i) (by omega)];unfold Qq;exact cq (cm (λ_=>hQ h1 (br (br (aiD FU _ _ (by unfold FU;omega) (by omega)) λ_ _=>br (cm (λ_=>bg _) λ_=>a4p FU _ (by unfold FU;omega) (by omega)) λ_ _=>bg _) λ_ _=>cm (λ_=>bg _) λ_=>br (a4p FU _ (by unfold FU;omega) (by omega)) λ_ _=>h3 _ trivial)) λ_=>bg _)
 ·show Tt (CR FU l (kk+1) a (i:Int));rw[CR,gJ h];exact⟨_,rfl⟩
theorem aiE:LW FU=some true:=by
 show(_:Option Bool)=some true;kernel_rfl
theorem aiF(l:List cQ)(more:cQ)(e:jm)(og:Int)(hb:gC l+zO more≤1048576):Fb FU l more e og=some true:=by
 obtain⟨g,hg⟩:=a4r l (by omega);obtain⟨g2,Jc⟩:=a4r [more] (by simp only[gC];omega);obtain⟨c,hc⟩:=a4o l (by omega);obtain⟨c2,uD⟩:=a4o (l++[more]) (by rw[Y7];exact hb);refine ahO FU (by decide) (by decide) e (λhI r hr=>aip r _ hr ?_) l more og hb aiE hg Jc hc uD;unfold uf at hI;rw[lt_eq]at hI;show e.cI≤_;by_cases h:e.cI≤1000000000
 ·exact h
 ·rw[du h]at hI;revert hI;cases decide (0≤e.cI)<;>intro hI<;>cases hI
def Iz(x:cQ):Nat:=1+(iK zR x.dm.bo+1)+1
theorem a4s(v:cQ):Iz v=zO v:=by unfold Iz zO;rw[show iK zR v.dm.bo=dU v.dm.bo+1 from Xk _]
theorem a4t:∀l:List cQ,(l.map Iz).sum=gC l
 |[]=>rfl
 |v::r=>by rw[gC,List.map_cons,List.sum_cons,a4t r,a4s]
theorem aiG(l:List cQ)(more:cQ)(e:jm)(og:Int){p q r s:Prop}(_:p)(_:q)(_:r)(_:s)(hb:iK Iz l+Iz more+(1+1)+1+0≤1048576):Fb FU l more e og=some true:=by
 have h:iK Iz l=gC l+1:=congrArg (· +1) (a4t l);rw[a4s]at hb;exact aiF l more e og (by omega)
end Go.Proofs.YtfinnnfdojhmnaaGreatDoor
