/-
 Loops over a list, once for all; how large parts are. No program in sight.
-/
import Derived.Test.YtnjmihahnjohoaaGreatDoorQ3
import Derived.Test.YtnjmihahnjohoaaGreatDoorRU
set_option linter.unusedVariables false
set_option maxRecDepth 100000
set_option maxHeartbeats 1000000
namespace Go.Proofs.YtnjmihahnjohoaaGreatDoor
open Go Go.V Go.RowKit
def zL{α:Type}(z:α→Nat):List α→Nat
 |[]=>0
 |v::r=>z v+zL z r
theorem yK{α:Type}{z:α→Nat}{x:α}:∀{l:List α},x∈l→z x≤zL z l
 |y::l,h=>by
  rw[zL];rcases List.mem_cons.1 h with rfl|h
  ·omega
  ·have:=yK (z:=z) h;omega
theorem yL{α:Type}{z:α→Nat}(hz:∀x,1≤z x):∀l:List α,l.length≤zL z l
 |[]=>fT _
 |y::l=>by have:=yL hz l;have:=hz y;rw[zL,cN];omega
theorem Pz:∀l,gH l=zL zX l
 |[]=>by rw[gH,zL]
 |v::r=>by rw[gH,zL,Pz r]
theorem PA:∀l,tA l=zL zP l
 |[]=>by rw[tA,zL]
 |v::r=>by rw[tA,zL,PA r]
theorem PB:∀l,tD l=zL zS l
 |[]=>by rw[tD,zL]
 |v::r=>by rw[tD,zL,PB r]
theorem LY:∀l,pc l=zL zC l
 |[]=>by rw[pc,zL]
 |v::r=>by rw[pc,zL,LY r]
theorem LZ:∀l,gO l=zL zR l
 |[]=>by rw[gO,zL]
 |v::r=>by rw[gO,zL,LZ r]
theorem VA:∀l,nT l=zL zD l
 |[]=>rfl
 |v::r=>by rw[nT,zL,VA r]
theorem VB:∀l,ve l=zL zNm l
 |[]=>rfl
 |v::r=>by rw[ve,zL,VB r]
theorem VC:∀l,vf l=zL zO l
 |[]=>rfl
 |v::r=>by rw[vf,zL,VC r]
theorem qx(x:bo):zX x=tA x.aL+x.dv.length+4:=by obtain⟨a,b,c⟩:=x;simp only[zX,bo.aL,bo.dv];omega
theorem tE(x:dU):zP x=x.Tag.length+tD x.aX+3:=by obtain⟨a,b⟩:=x;simp only[zP,dU.Tag,dU.aX];omega
theorem wY(x:dw):zS x=x.aO.length+x.Value.length+gH x.J+11:=by obtain⟨a,b,c,d,e,f,g,h⟩:=x;simp only[zS,dw.aO,dw.Value,dw.J];omega
theorem jA(x:aP):zC x=x.aO.length+zD x.aA+pc x.J+5:=by obtain⟨a,b,c,d,e⟩:=x;simp only[zC,aP.aO,aP.aA,aP.J];omega
theorem rz(x:cy):zD x=x.aO.length+cj x.Value+4:=by unfold zD;omega
theorem wZ(x:bJ):zR x=gH x.cK+nT x.bE+zC x.aM+ve x.bX+gO x.bh+6:=by obtain⟨a,b,c,d,e,f⟩:=x;simp only[zR,bJ.cK,bJ.bE,bJ.aM,bJ.bX,bJ.bh];omega
theorem mX{x:bo}{l:List bo}(h:x∈l):zX x≤gH l:=by rw[Pz];exact yK h
theorem mP{x:dU}{l:List dU}(h:x∈l):zP x≤tA l:=by rw[PA];exact yK h
theorem mS{x:dw}{l:List dw}(h:x∈l):zS x≤tD l:=by rw[PB];exact yK h
theorem mC{x:aP}{l:List aP}(h:x∈l):zC x≤pc l:=by rw[LY];exact yK h
theorem mR{x:bJ}{l:List bJ}(h:x∈l):zR x≤gO l:=by rw[LZ];exact yK h
theorem mD{x:cy}{l:List cy}(h:x∈l):zD x≤nT l:=by rw[VA];exact yK h
theorem mN{x:List ag}{l:List (List ag)}(h:x∈l):zNm x≤ve l:=by rw[VB];exact yK h
theorem mO{x:jV}{l:List jV}(h:x∈l):zO x≤vf l:=by rw[VC];exact yK h
theorem nX(l:List bo):l.length≤gH l:=by rw[Pz];exact yL (λx=>by rw[qx];omega) l
theorem nP(l:List dU):l.length≤tA l:=by rw[PA];exact yL (λx=>by rw[tE];omega) l
theorem nS(l:List dw):l.length≤tD l:=by rw[PB];exact yL (λx=>by rw[wY];omega) l
theorem nC(l:List aP):l.length≤pc l:=by rw[LY];exact yL (λx=>by rw[jA];omega) l
theorem nR(l:List bJ):l.length≤gO l:=by rw[LZ];exact yL (λx=>by rw[wZ];omega) l
theorem nD(l:List cy):l.length≤nT l:=by rw[VA];exact yL (λx=>by rw[rz];omega) l
theorem nN(l:List (List ag)):l.length≤ve l:=by rw[VB];exact yL (λx=>by unfold zNm;omega) l
theorem nO(l:List jV):l.length≤vf l:=by rw[VC];exact yL (λx=>by unfold zO;omega) l
theorem aea{x:ag}{l:List ag}(h:x∈l):x.length+1≤zNm l:=by
 unfold zNm;have:x.length+1≤(l.map λx=>x.length+1).sum:=by
  induction l with
  |nil=>cases h
  |cons y l ih=>
   rw[List.map_cons,List.sum_cons];rcases List.mem_cons.1 h with rfl|h
   ·omega
   ·have:=ih h;omega
 omega
theorem a1p(l:List ag):l.length≤zNm l:=by
 unfold zNm
 induction l with
 |nil=>exact fT _
 |cons y l ih=>rw[List.map_cons,List.sum_cons,cN];omega
theorem aeb{α ρ:Type}[Inhabited α](F:Nat→Int→Option ρ)(l:List α)(t:α→Bool)(hit lV:Option ρ)(hl:l.length≤1048576)
  (hF:∀(kk i:Nat),i<l.length→gi l (i:Int)∈l→F (kk+1) (i:Int)=cond (t (gi l (i:Int))) hit (F kk ((i+1:Nat):Int)))(hE:∀kk (i:Nat),l.length≤i→F (kk+1) (i:Int)=lV):
  ∀(kk i:Nat),l.length-i<kk→F kk (i:Int)=cond ((l.drop i).any t) hit lV:=by
 intro kk
 induction kk with
 |zero=>intro i h;omega
 |succ kk ih=>
  intro i h;by_cases h1:i<l.length
  ·rw[hF kk i h1 (fY h1),ih (i+1) (by omega),fv h1,List.any_cons,←fh l i h1];cases t (gi l (i:Int))<;>rfl
  ·rw[hE kk i (by omega),gR (by omega)];rfl
theorem pd{α ρ:Type}[Inhabited α](F:Nat→Int→Option ρ)(l:List α)(t:α→Bool)(hit lV:Option ρ)(hl:l.length≤1048576)
  (hF:∀(kk i:Nat),i<l.length→gi l (i:Int)∈l→F (kk+1) (i:Int)=cond (t (gi l (i:Int))) hit (F kk ((i+1:Nat):Int)))(hE:∀kk (i:Nat),l.length≤i→F (kk+1) (i:Int)=lV):
  F FU 0=cond (l.any t) hit lV:=aeb F l t hit lV hl hF hE FU 0 (by unfold FU;omega)
theorem aec{α:Type}[Inhabited α](F:Nat→Int→Option (Sum Int Unit))(l:List α)(t:α→Bool)(hl:l.length≤1048576)
  (hF:∀(kk i:Nat),i<l.length→gi l (i:Int)∈l→F (kk+1) (i:Int)=cond (t (gi l (i:Int))) (some (.inl (i:Int))) (F kk ((i+1:Nat):Int)))(hE:∀kk (i:Nat),l.length≤i→F (kk+1) (i:Int)=some (.inr ())):
  ∀(kk i:Nat),l.length-i<kk→∃j:Nat,F kk (i:Int)=some (cond ((l.drop i).any t) (.inl (j:Int)) (.inr ())):=by
 intro kk
 induction kk with
 |zero=>intro i h;omega
 |succ kk ih=>
  intro i h;by_cases h1:i<l.length
  ·obtain⟨j,hj⟩:=ih (i+1) (by omega);rw[hF kk i h1 (fY h1),hj,fv h1,List.any_cons,←fh l i h1];cases t (gi l (i:Int))
   ·exact⟨j,rfl⟩
   ·exact⟨i,rfl⟩
  ·rw[hE kk i (by omega),gR (by omega)];exact⟨0,rfl⟩
theorem Bd{α:Type}[Inhabited α](F:Nat→Int→Option (Sum Int Unit))(l:List α)(t:α→Bool)(hl:l.length≤1048576)
  (hF:∀(kk i:Nat),i<l.length→gi l (i:Int)∈l→F (kk+1) (i:Int)=cond (t (gi l (i:Int))) (some (.inl (i:Int))) (F kk ((i+1:Nat):Int)))(hE:∀kk (i:Nat),l.length≤i→F (kk+1) (i:Int)=some (.inr ())):
  (Option.bind (Option.bind (F FU 0) λ(z3:Sum Int Unit)=>bK z3 λcO=>some (-1)) λy3=>some (decide (0≤y3)))=some (l.any t):=by
 obtain⟨j,hj⟩:=aec F l t hl hF hE FU 0 (by unfold FU;omega);rw[show F FU 0=_ from hj,du];cases l.any t
 ·rfl
 ·show some (decide (0≤(j:Int)))=some true;rw[cB (by omega)]
theorem PC{α:Type}[Inhabited α](F:Nat→Int→Int→Option Int)(l:List α)(f:α→Nat)(hl:l.length≤1048576)
  (hF:∀(kk i a:Nat),i<l.length→gi l (i:Int)∈l→a+zL f (l.drop i)≤1048576→F (kk+1) (a:Int) (i:Int)=F kk ((a+f (gi l (i:Int)):Nat):Int) ((i+1:Nat):Int))(hE:∀kk (i a:Nat),l.length≤i→F (kk+1) (a:Int) (i:Int)=some (a:Int)):
  ∀(kk i a:Nat),l.length-i<kk→a+zL f (l.drop i)≤1048576→F kk (a:Int) (i:Int)=some ((a+zL f (l.drop i):Nat):Int):=by
 intro kk
 induction kk with
 |zero=>intro i a h;omega
 |succ kk ih=>
  intro i a h ha;by_cases h1:i<l.length
  ·have e:zL f (l.drop i)=f (gi l (i:Int))+zL f (l.drop (i+1)):=by rw[fv h1,zL,←fh l i h1]
   rw[hF kk i a h1 (fY h1) ha,ih (i+1) _ (by omega) (by omega),e];congr 2;omega
  ·rw[hE kk i a (by omega),gR (by omega)];rfl
def mL{α:Type}(f:α→Nat):List α→Nat
 |[]=>0
 |v::r=>max (f v) (mL f r)
theorem Be{α:Type}[Inhabited α](F:Nat→Int→Int→Option Int)(l:List α)(f:α→Nat)(hl:l.length≤1048576)
  (hF:∀(kk i a:Nat),i<l.length→gi l (i:Int)∈l→F (kk+1) (a:Int) (i:Int)=F kk ((max a (f (gi l (i:Int))):Nat):Int) ((i+1:Nat):Int))(hE:∀kk (i a:Nat),l.length≤i→F (kk+1) (a:Int) (i:Int)=some (a:Int)):
  ∀(kk i a:Nat),l.length-i<kk→F kk (a:Int) (i:Int)=some ((max a (mL f (l.drop i)):Nat):Int):=by
 intro kk
 induction kk with
 |zero=>intro i a h;omega
 |succ kk ih=>
  intro i a h;by_cases h1:i<l.length
  ·rw[hF kk i a h1 (fY h1),ih (i+1) _ (by omega),fv h1,mL,←fh l i h1,Nat.max_assoc]
  ·rw[hE kk i a (by omega),gR (by omega),mL,Nat.max_zero]
theorem qy{α:Type}{f:α→Nat}{n:Nat}:∀{l:List α},(∀x∈l,f x≤n)→mL f l≤n
 |[],_=>fT _
 |y::l,h=>by rw[mL];exact Nat.max_le.2 ⟨h y List.mem_cons_self,qy λx hx=>h x (List.mem_cons_of_mem _ hx)⟩
theorem Ei{α:Type}{f g:α→Nat}:∀{l:List α},(∀x∈l,f x≤g x)→zL f l≤zL g l
 |[],_=>dz _
 |y::l,h=>by
  rw[zL,zL];have:=h y List.mem_cons_self;have:=Ei (f:=f) (g:=g) (l:=l) λx hx=>h x (List.mem_cons_of_mem _ hx);omega
theorem tF(a b:Nat):(if((a:Nat):Int)<((b:Nat):Int)then((b:Nat):Int)else((a:Nat):Int))=((max a b:Nat):Int):=by
 by_cases h:a<b
 ·rw[if_pos (by omega),Nat.max_eq_right (by omega)]
 ·rw[if_neg (by omega),Nat.max_eq_left (by omega)]
theorem HO(a b:Nat)(h:a+b≤4611686018427387904):a8 ((a:Int)+(b:Int))=((a+b:Nat):Int):=by rw[o5 (by omega) (by omega)];omega
theorem PD(b:Nat)(h:b≤4611686018427387904):a8 (1+(b:Int))=((1+b:Nat):Int):=by rw[o5 (by omega) (by omega)];omega
theorem VD(s:ag):(bw s).length=s.length:=by simp[bw]
theorem aed:((List.range 256).all λn=>nJ (n:Int)==cond (cond (decide (65≤(n:Int))) (decide ((n:Int)≤90)) false) (kf .or .u8 (n:Int) 32) (n:Int)&&(decide (0≤nJ (n:Int))&&decide (nJ (n:Int)<256)))=true:=by kernel_rfl
theorem aee{x:Int}(h:0≤x∧x<256):nJ x=cond (cond (decide (65≤x)) (decide (x≤90)) false) (kf .or .u8 x 32) x∧0≤nJ x∧nJ x<256:=by
 obtain⟨n,rfl⟩:∃n:Nat,x=(n:Int):=⟨x.toNat,by omega⟩;have h1:=Pp aed (n:=n) (by omega);rw[Bool.and_eq_true,Bool.and_eq_true]at h1;exact⟨eq_of_beq h1.1,jH h1.2.1,jH h1.2.2⟩
theorem aef(l:List Int)(i:Nat)(h:i<l.length):o3 l (i:Int) (gi l (i:Int))=l:=by
 rw[Rj,fh l i h,List.set_getElem_self]
theorem aeg(m:Nat)(s:ag)(hs:s.length≤1048576):∀(kk i:Nat)(l:List Int),s.length-i<kk→i≤s.length→l.length=s.length→(∀x∈l,0≤x∧x<256)→
  ∃l',Fa m s kk (i:Int) l=some l'∧Gx m s kk (i:Int) l=some l':=by
 intro kk
 induction kk with
 |zero=>intro i l h;omega
 |succ kk ih=>
  intro i l hk hi hl hb;rw[Fa,Gx];by_cases hH:i<s.length
  ·have hd:decide ((i:Int)<ln (bw s))=true:=cB (by unfold ln;rw[VD];omega);have hc:0≤(i:Int)∧(i:Int)<ln (bw s):=⟨by omega,jH hd⟩;have hx:0≤gi l (i:Int)∧gi l (i:Int)<256:=by rw[fh l i (by omega)];exact hb _ (List.getElem_mem _)
   obtain⟨h1,h2⟩:=aee hx;rw[hd,aB,aB,bz hc,bz hc,lt_eq,lt_eq,bG (by omega)];have hnx:(cond (cond (decide (65≤gi l (i:Int))) (decide (gi l (i:Int)≤90)) false) (some (o3 l (i:Int) (kf .or .u8 (gi l (i:Int)) 32))) (some l):Option (List Int))=some (o3 l (i:Int) (nJ (gi l (i:Int)))):=by
    rw[h1];cases cond (decide (65≤gi l (i:Int))) (decide (gi l (i:Int)≤90)) false
    ·rw[aG,aG,aef l i (by omega)]
    ·rfl
   rw[hnx,aF,lt_eq];apply ih (i+1) _ (by omega) hH
   ·rw[Rj,List.length_set];exact hl
   ·intro x hx2;rw[Rj]at hx2;rcases List.mem_or_eq_of_mem_set hx2 with h|h
    ·exact hb x h
    ·rw[h];exact h2
  ·have hd:decide ((i:Int)<ln (bw s))=false:=cv (by unfold ln;rw[VD];omega);rw[hd];exact⟨l,rfl,rfl⟩
theorem aeh(s:ag):∀x∈bw s,0≤x∧x<256:=by
 intro x hx;obtain⟨b,_,rfl⟩:=List.mem_map.1 hx;have:=b.toNat_lt;omega
theorem a1q(s:ag)(hs:s.length≤1048576):∃r,uh FU s=some r∧wJ FU s=some r:=by
 obtain⟨l,h1,h2⟩:=aeg FU s hs FU 0 (bw s) (by unfold FU;omega) (by omega) (VD s) (aeh s);unfold uh wJ;rw[show Fa FU s FU 0 (bw s)=_ from h1,show Gx FU s FU 0 (bw s)=_ from h2];exact⟨_,rfl,rfl⟩
def lw(s:ag):ag:=(uh FU s).getD []
theorem M0(s:ag)(hs:s.length≤1048576):uh FU s=some (lw s):=by
 obtain⟨r,h,_⟩:=a1q s hs;unfold lw;rw[h];rfl
theorem M1(s:ag)(hs:s.length≤1048576):wJ FU s=some (lw s):=by
 obtain⟨r,h,h2⟩:=a1q s hs;unfold lw;rw[h,h2];rfl
theorem aei(a b:ag)(ha:a.length≤1048576)(hb:b.length≤1048576):Jr FU a b=some (lw a==lw b):=by
 unfold Jr;rw[M0 a ha,M0 b hb];rfl
theorem aej(a b:ag)(ha:a.length≤1048576)(hb:b.length≤1048576):GS FU a b=some (lw a==lw b):=by
 unfold GS;rw[M1 a ha,M1 b hb];rfl
def zb(s:ag):Bool:=s.any λb=>b==0
theorem VE:∀s:ag,Lib.indexByte s 0=-1∧zb s=false∨0≤Lib.indexByte s 0∧zb s=true
 |[]=>Or.inl ⟨rfl,rfl⟩
 |b::s=>by
  unfold zb Lib.indexByte;rw[List.any_cons];cases hb:(b==0)
  ·rw[if_neg (by simp),o7];rcases VE s with⟨h,h2⟩|⟨h,h2⟩
   ·rw[h];exact Or.inl ⟨rfl,h2⟩
   ·rw[if_neg (by simpa using λe:Lib.indexByte s 0=-1=>by omega)];exact Or.inr ⟨by omega,h2⟩
  ·rw[if_pos rfl,Bool.true_or];exact Or.inr ⟨by omega,rfl⟩
theorem VF(s:ag):decide (0≤strings_IndexByte s 0)=zb s:=by
 show decide (0≤Lib.indexByte s 0)=zb s;rcases VE s with⟨h,h2⟩|⟨h,h2⟩
 ·rw[h,h2];rfl
 ·rw[h2];exact cB h
theorem a1r(s:ag):decide (strings_IndexByte s 0<0)=!(zb s):=by
 show decide (Lib.indexByte s 0<0)=!(zb s);rcases VE s with⟨h,h2⟩|⟨h,h2⟩
 ·rw[h,h2];rfl
 ·rw[h2];exact cv (by omega)
theorem aek(a b:ag):zb (a++b)=(zb a||zb b):=by unfold zb;rw[List.any_append]
theorem ael{ρ:Type}(F:Nat→Int→Option ρ)(s:ag)(hit lV:Option ρ)(hF:∀(kk i:Nat),i<s.length→F (kk+1) (i:Int)=cond (bg s (i:Int)==0) hit (F kk ((i+1:Nat):Int)))(hE:∀kk (i:Nat),s.length≤i→F (kk+1) (i:Int)=lV):
  ∀(kk i:Nat),s.length-i<kk→F kk (i:Int)=cond (zb (s.drop i)) hit lV:=by
 intro kk
 induction kk with
 |zero=>intro i h;omega
 |succ kk ih=>
  intro i h;by_cases h1:i<s.length
  ·rw[hF kk i h1,ih (i+1) (by omega),fv h1,Ri s i h1];unfold zb;rw[List.any_cons];have e:(((s[i].toNat:Nat):Int)==0)=(s[i]==0):=by
    cases h0:(s[i]==0)
    ·refine bM.2 λhh=>?_;have:s[i].toNat=0:=by omega
     have:s[i]=0:=UInt8.toNat_inj.1 this;rw[this]at h0;cases h0
    ·rw[eq_of_beq h0];rfl
   rw[e];cases(s[i]==0)<;>rfl
  ·rw[hE kk i (by omega),gR (by omega)];rfl
theorem PE{ρ:Type}(F:Nat→Int→Option ρ)(s:ag)(hit lV:Option ρ)(hl:s.length≤1048576)(hF:∀(kk i:Nat),i<s.length→F (kk+1) (i:Int)=cond (bg s (i:Int)==0) hit (F kk ((i+1:Nat):Int)))(hE:∀kk (i:Nat),s.length≤i→F (kk+1) (i:Int)=lV):
  F FU 0=cond (zb s) hit lV:=ael F s hit lV hF hE FU 0 (by unfold FU;omega)
theorem aem(s:ag)(hs:s.length≤1048576):Gv FU s FU 0=cond (zb s) (some (.inl false)) (some (.inr ())):=
 PE _ s _ _ hs (λkk i h=>by rw[Gv,ct h,aB,bR h,bG (by omega)]) (λkk i h=>by rw[Gv,cq h];rfl)
theorem aen(s:ag)(hs:s.length≤1048576):GI FU s FU 0=cond (zb s) (some (.inl false)) (some (.inr ())):=
 PE _ s _ _ hs (λkk i h=>by rw[GI,ct h,aB,bR h,bG (by omega)]) (λkk i h=>by rw[GI,cq h];rfl)
theorem aeo(s:ag)(hs:s.length≤1048576):GF FU s FU 0=cond (zb s) (some (.inl false)) (some (.inr ())):=
 PE _ s _ _ hs (λkk i h=>by rw[GF,ct h,aB,bR h,bG (by omega)]) (λkk i h=>by rw[GF,cq h];rfl)
theorem aep(s:ag)(hs:s.length≤1048576):Hc FU s FU 0=cond (zb s) (some (.inl false)) (some (.inr ())):=
 PE _ s _ _ hs (λkk i h=>by rw[Hc,ct h,aB,bR h,bG (by omega)]) (λkk i h=>by rw[Hc,cq h];rfl)
theorem a1s(s:ag)(n:Int):xF s n=(decide (n<ln s)||zb s):=by
 unfold xF;rw[lt_eq,VF];cases decide (n<ln s)<;>rfl
theorem a1t(s:ag)(n:Int)(hs:s.length≤1048576):Gw FU s n=some (!(xF s n)):=by
 unfold Gw;rw[aem s hs,a1s];cases zb s
 ·show some (decide (ln s≤n))=_;congr 1;by_cases h:n<ln s
  ·rw[cB h,cv (by omega)];rfl
  ·rw[cv h,cB (by omega)];rfl
 ·rw[Bool.or_true];rfl
theorem a1u(s:ag)(hs:s.length≤1048576):AF FU s=some (!(zb s)):=by
 unfold AF;rw[aen s hs];cases zb s<;>rfl
theorem VG(s:ag)(hs:s.length≤1048576):Dh FU s=some (mh s):=by
 unfold Dh mh;rw[lt_eq];cases(!(s==[]))
 ·rfl
 ·rw[aB,aB,a1t s 64 hs];rfl
theorem aeq(s:ag):F7 s=!(mh s):=by
 unfold F7 mh;rw[lt_eq,lt_eq,lt_eq,a1s,VF];cases(s==[])<;>cases decide (64<ln s)<;>cases zb s<;>rfl
def HP(s:ag):Bool:=cond (mh s) (lw s==s) false
theorem a1v(s:ag)(hs:s.length≤1048576):Fb FU s=some (HP s):=by
 unfold Fb HP;rw[M0 s hs];cases mh s<;>rfl
theorem a1w(s:ag)(hs:s.length≤1048576):Gy FU s=some (HP s):=by
 unfold Gy HP;rw[VG s hs,aF,M1 s hs];cases mh s
 ·rfl
 ·rw[aB,aB,Pf (lw s) s];rfl
def mw(s:ag):Bool:=cond (decide (2≤ln s)) (sub s 0 2==[45,45]) false
theorem VH(s:ag):strings_HasPrefix s [45,45]=some (mw s):=by
 unfold strings_HasPrefix stringslite_HasPrefix mw;rw[show ln ([45,45]:ag)=2 from rfl,bz (λh=>⟨by omega,jH h⟩)];rfl
theorem aer(s:ag)(h:mw s=true):(!(s==[45,45]))=decide (2<ln s):=by
 unfold mw at h;cases h2:decide (2≤ln s)
 ·rw[h2]at h;cases h
 ·rw[h2,aB]at h;have h3:2≤ln s:=jH h2;by_cases h4:2<ln s
  ·rw[cB h4];rw[Bool.not_eq_true',bM];intro e;rw[e]at h4;exact absurd h4 (by decide)
  ·rw[cv h4];have hl:s.length=2:=by unfold ln at h3 h4;omega
   have e:s=[45,45]:=by
    have h5:sub s 0 2=[45,45]:=eq_of_beq h;have h6:sub s 0 2=s:=by
     unfold sub;show(s.drop 0).take 2=s;rw[du,List.take_of_length_le (by omega)]
    rw[h6]at h5;exact h5
   rw[e];rfl
def Bf(s:ag):Bool:=!(cond (cond (s==[]) true (decide (64<ln s))) true (zb s))&&cond (mw s) (decide (2<ln s)) (s==lw s)
theorem aes(s:ag)(hs:s.length≤1048576):Jl FU s=some (Bf s):=by
 unfold Jl Bf;rw[lt_eq,lt_eq,VF,VH,aF,M0 s hs,aF];cases(cond (cond (s==[]) true (decide (64<ln s))) true (zb s))
 ·rw[aG,gS,kR];cases hc:mw s
  ·rfl
  ·rw[aB,aB,aer s hc]
 ·rfl
theorem aet(s:ag)(hs:s.length≤1048576):KL FU s=some (Bf s):=by
 unfold KL Bf;have e:decide (ln s<1)=(s==[]):=by
  cases s with
  |nil=>rfl
  |cons b s=>exact cv (by unfold ln;rw[cN];omega)
 rw[lt_eq,e,aeo s hs,bz (λh=>⟨by omega,jH h⟩),lt_eq,M1 s hs,aF];cases(cond (s==[]) true (decide (64<ln s)))
 ·rw[aG,aG];cases zb s
  ·rw[aG,aF];dsimp only[bK];rw[gS,kR];unfold mw;cases cond (decide (2≤ln s)) (sub s 0 2==[45,45]) false<;>rfl
  ·rfl
 ·rfl
theorem aeu(s:ag):KY s=some (cond (mw s) (decide (2<ln s)) false):=by
 unfold KY mw;rw[bz (λh=>by have:=jH h;exact⟨by omega,by omega⟩),lt_eq];by_cases h:2<ln s
 ·rw[cB h,show decide (2≤ln s)=true from cB (by omega),aB];cases(sub s 0 2==[45,45])<;>rfl
 ·rw[cv h,aG];cases(cond (decide (2≤ln s)) (sub s 0 2==[45,45]) false)<;>rfl
def Ej(s:ag):Bool:=!(cond (cond (cond (cond (cond (cond (cond (s==[]) true (decide (64<ln s))) true (!(s==lw s))) true (s==[97,110,100])) true (s==[111,114])) true (s==[110,111,116])) true (s==[111,110,108,121])) true (zb s))
theorem aev(s:ag)(hs:s.length≤1048576):KZ FU s=some (Ej s):=by
 unfold KZ Ej;rw[lt_eq,M1 s hs,aep s hs];cases(cond (s==[]) true (decide (64<ln s)))<;>simp only[lt_eq,aB,aG,aF]
 ·cases(cond (cond (cond (cond (!(s==lw s)) true (s==[97,110,100])) true (s==[111,114])) true (s==[110,111,116])) true (s==[111,110,108,121]))
  ·cases zb s<;>rfl
  ·rfl
 ·rfl
def clt(k:Int):bW:=bW.mk k [] 0 [] false
mutual
def M2:aj→List bW
 | .mk t l=>cond (ij t.a7==0) [t] (t::(iG l++[clt (ij t.a7)]))
def iG:List aj→List bW
 |[]=>[]
 |x::r=>M2 x++iG r
end
theorem PF(x:aj):M2 x=cond (ij x.ay.a7==0) [x.ay] (x.ay::(iG x.J++[clt (ij x.ay.a7)])):=by obtain⟨t,l⟩:=x;rw[M2];rfl
theorem PG(n:Nat):∀v:List aj,cj v≤n→(iG v).length=gw v:=by
 induction n using Nat.strongRecOn with
 |_ n ih=>
  intro v
  induction v with
  |nil=>intro _;rw[iG,gw];rfl
  |cons x r yF=>
   intro h;rw[cj]at h;have hk:=lB x;rw[iG,gw,ee,yF (by omega),PF,Ed];have:=ih (cj x.J) (by omega) x.J (dz _);cases(ij x.ay.a7==0)
   ·simp only[aG,cN,ee,dn,this];omega
   ·rfl
theorem a1x{l:List aj}{i:Nat}(h:i<l.length):iG (l.drop i)=M2 (gi l (i:Int))++iG (l.drop (i+1)):=by
 rw[fv h,iG,←fh l i h]
theorem aew(x:aj):(M2 x).length=LM x:=by
 have:=PG (cj [x]) [x] (dz _);rw[iG,gw,iG,gw]at this;simpa using this
theorem aex(v:List aj)(rec:List bW→List aj→Option (List bW))(hl:v.length≤1048576)(hr:∀x∈v,∀l:List bW,l.length+gw x.J≤2500000→rec l x.J=some (l++iG x.J)):
  ∀(kk i:Nat)(a:List bW),v.length-i<kk→i≤v.length→a.length+gw (v.drop i)≤2500000→Fl FU v rec kk a (i:Int)=some (a++iG (v.drop i)):=by
 intro kk
 induction kk with
 |zero=>intro i a h;omega
 |succ kk ih=>
  intro i a h hi ha;rw[Fl];by_cases h1:i<v.length
  ·have hm:=fY h1;have pG:=LN h1;have hlen:=aew (gi v (i:Int));rw[Ed]at pG hlen;have hq:(a++[(gi v (i:Int)).ay]).length=a.length+1:=by simp
   rw[ct h1,aB,bR h1,bz (by unfold ln;simp only[cN,dn];omega),lt_eq,lt_eq,a0J];rw[a1x h1,PF]at*;cases hc:(ij (gi v (i:Int)).ay.a7==0)
   ·have hz:(ij (gi v (i:Int)).ay.a7 !=0)=true:=by rw[bne,hc];rfl
    rw[hc,aG]at pG hlen;have hlk:(iG (gi v (i:Int)).J).length=gw (gi v (i:Int)).J:=PG _ _ (dz _);rw[hz,aB,hr _ hm _ (by omega),aF,bz (by unfold ln;simp only[cN,dn,ee];omega),lt_eq,aF,bG (by omega),ih (i+1) _ (by omega) (by omega) (by simp only[ee,cN,dn];omega),aG];congr 1;simp only[mG,List.cons_append,List.nil_append];rfl
   ·have hz:(ij (gi v (i:Int)).ay.a7 !=0)=false:=by rw[bne,hc];rfl
    rw[hc,aB]at pG;rw[hz,aG,aF,bG (by omega),ih (i+1) (a++[(gi v (i:Int)).ay]) (by omega) (by omega) (by rw[hq];omega),aB,mG]
  ·rw[cq (by omega),aG,gR (by omega),iG,List.append_nil]
theorem VI(v:List aj):gw v≤cj v:=(wV (cj v) v (dz _)).1
theorem aey:∀(k:Nat)(v:List aj)(l:List bW),cj v<k→cj v≤1048576→l.length+gw v≤2500000→Ci FU k l v=some (l++iG v):=by
 intro k
 induction k with
 |zero=>intro v l h;omega
 |succ k ih=>
  intro v l h hb hl;have hn:=jz v;rw[Ci,show Fl FU v (Ci FU k) FU l 0=some (l++iG (v.drop 0))from aex v _ (by omega) (λx hx l hl=>ih x.J l (by have:=lB x;have:=kM hx;omega) (by have:=lB x;have:=kM hx;omega) hl) FU 0 l (by unfold FU;omega) (fT _) (by rw[du];exact hl),du];rfl
theorem aez(v:List aj)(hb:cj v≤1048576):Nn FU [] v=some (iG v):=by
 have h:=VI v;unfold Nn;rw[aey FU v [] (by unfold FU;omega) hb (by simp only[dn];omega)];rfl
theorem aeA(v:List aj)(rec:List aj→Option (List bW))(hb:cj v≤1048576)(hr:∀x∈v,rec x.J=some (iG x.J)):
  ∀(kk i:Nat)(a:List bW),v.length-i<kk→i≤v.length→a.length+gw (v.drop i)≤2500000→AE FU v rec kk a (i:Int)=some (a++iG (v.drop i)):=by
 have hl:=jz v;intro kk
 induction kk with
 |zero=>intro i a h;omega
 |succ kk ih=>
  intro i a h hi ha;rw[AE];by_cases h1:i<v.length
  ·have hm:=fY h1;have pG:=LN h1;rw[Ed]at pG;rw[ct h1,aB,bR h1,bz (by unfold ln;simp only[cN,dn];omega),lt_eq,lt_eq,a1x h1,PF];show Option.bind (cond (ij (gi v (i:Int)).ay.a7 !=0) _ _) _=_;cases hc:(ij (gi v (i:Int)).ay.a7==0)
   ·have hz:(ij (gi v (i:Int)).ay.a7 !=0)=true:=by rw[bne,hc];rfl
    rw[hc,aG]at pG;have hlk:(iG (gi v (i:Int)).J).length=gw (gi v (i:Int)).J:=PG _ _ (dz _);rw[hz,aB,hr _ hm,aF,bz (by unfold ln;simp only[cN,dn,ee];omega),lt_eq,bz (by unfold ln;simp only[cN,dn,ee];omega),lt_eq,aF,bG (by omega),ih (i+1) _ (by omega) (by omega) (by simp only[ee,cN,dn];omega),aG];congr 1;simp only[mG,List.cons_append,List.nil_append];rfl
   ·have hz:(ij (gi v (i:Int)).ay.a7 !=0)=false:=by rw[bne,hc];rfl
    rw[hc,aB]at pG;rw[hz,aG,aF,bG (by omega),ih (i+1) (a++[(gi v (i:Int)).ay]) (by omega) (by omega) (by simp only[ee,cN,dn];omega),aB,mG]
  ·rw[cq (by omega),aG,gR (by omega),iG,List.append_nil]
theorem aeB:∀(k:Nat)(v:List aj),cj v<k→cj v≤1048576→wK FU k v=some (iG v):=by
 intro k
 induction k with
 |zero=>intro v h;omega
 |succ k ih=>
  intro v h hb;have hn:=jz v;have ht:=VI v;rw[wK,show AE FU v (wK FU k) FU [] 0=some ([]++iG (v.drop 0))from aeA v _ hb (λx hx=>ih x.J (by have:=lB x;have:=kM hx;omega) (by have:=lB x;have:=kM hx;omega)) FU 0 [] (by unfold FU;omega) (fT _) (by rw[du];simp only[dn];omega),du];rfl
theorem aeC(v:List aj)(hb:cj v≤1048576):KN FU v=some (iG v):=aeB FU v (by unfold FU;omega) hb
def tz(t:bW):Nat:=t.bU.length+t.Unit.length
theorem aeD(n:Nat):∀v:List aj,cj v≤n→∀t∈iG v,tz t≤cj v:=by
 induction n using Nat.strongRecOn with
 |_ n ih=>
  intro v
  induction v with
  |nil=>intro _ t ht;rw[iG]at ht;cases ht
  |cons x r yF=>
   intro h t ht;rw[cj]at h⊢;have hk:=lB x;have hx:=LU x;rw[iG]at ht;rcases List.mem_append.1 ht with ht|ht
   ·rw[PF]at ht;cases hc:(ij x.ay.a7==0)
    ·rw[hc,aG]at ht;rcases List.mem_cons.1 ht with rfl|ht
     ·unfold tz;omega
     ·rcases List.mem_append.1 ht with ht|ht
      ·have:=ih (cj x.J) (by omega) x.J (dz _) t ht;omega
      ·rw[List.mem_singleton.1 ht];exact fT _
    ·rw[hc,aB]at ht;rw[List.mem_singleton.1 ht];unfold tz;omega
   ·have:=yF (by omega) t ht;omega
def PH(T:ag):Option Bool:=
 au (true=true→0≤(0:Int)∧(0:Int)<ln T)<|
 lt (cond true (!(Fo (bg T 0))) false) λfV=>
 Option.bind (cond (cond fV true (T==[45])) (strings_Contains [32,9,10,12,13,34,39,58,59,44,91,93,40,41,123,125] T) (some default)) λmm=>
 lt (cond (cond fV true (T==[45])) (!mm) false) λlu=>
 some lu
theorem aeE:((List.range 256).all λn=>match PH [UInt8.ofNat n],DD FU (bg [UInt8.ofNat n] 0)with|some a,some b=>(n==0&&b==false)||a==b|_,_=>false)=true:=by kernel_rfl
theorem aeF(c:UInt8):∃a b,PH [c]=some a∧DD FU (bg [c] 0)=some b∧(c=0∧b=false∨a=b):=by
 have h:=Pp aeE (n:=c.toNat) c.toNat_lt;rw[UInt8.ofNat_toNat]at h
 revert h
 cases h1:PH [c]with
 |none=>intro h;cases h
 |some a=>
  cases h2:DD FU (bg [c] 0)with
  |none=>intro h;cases h
  |some b=>
   intro h;refine⟨a,b,rfl,rfl,?_⟩;have h:(c.toNat==0&&b==false||a==b)=true:=h;cases sG:(a==b)
   ·rw[sG,Bool.or_false,Bool.and_eq_true]at h;have:c.toNat=0:=eq_of_beq h.1;exact Or.inl ⟨UInt8.toNat_inj.1 this,eq_of_beq h.2⟩
   ·exact Or.inr (eq_of_beq sG)
theorem aeG(s:ag):stringslite_HasPrefix s [45]=some (cond (decide (1≤ln s)) (sub s 0 1==[45]) false):=by
 unfold stringslite_HasPrefix;rw[show ln ([45]:ag)=1 from rfl,bz (λh=>⟨by omega,jH h⟩)];rfl
theorem aeH(T:ag)(h:(T==[])=false):∃nb b,Jm T=some nb∧KP T=some b∧cond (cond nb (!(mw T)) false) true (T==[45])=b:=by
 unfold Jm KP strings_TrimPrefix stringslite_TrimPrefix;rw[aeG,aF,h,aG];cases T with
 |nil=>cases h
 |cons c r=>
  have hl:(1:Int)≤ln (c::r):=by unfold ln;rw[cN];omega
  have h0:0≤(0:Int)∧(0:Int)<ln (c::r):=⟨by omega,by omega⟩;rw[cB hl,aB,bz h0,lt_eq];have e1:(sub (c::r) 0 1==[45])=(c==45):=by
   show([c]==[45])=_;cases hc:(c==45)
   ·exact bM.2 λe=>by rw[List.cons.inj e|>.1]at hc;cases hc
   ·rw[eq_of_beq hc];rfl
  have e2:(bg (c::r) 0==45)=(c==45):=by
   show(((c.toNat:Nat):Int)==45)=_;cases hc:(c==45)
   ·refine bM.2 λe=>?_;have:c.toNat=45:=by omega
    have:c=45:=UInt8.toNat_inj.1 this;rw[this]at hc;cases hc
   ·rw[eq_of_beq hc];rfl
  rw[e1,e2];cases hc:(c==45)
  ·have ne:((c::r)==([45]:ag))=false:=bM.2 λe=>by rw[List.cons.inj e|>.1]at hc;cases hc
   have nc:mw (c::r)=false:=by
    unfold mw;cases r with
    |nil=>rfl
    |cons d r=>
     rw[cB (by unfold ln;simp only[cN];omega),aB];show([c,d]==[45,45])=false;exact bM.2 λe=>by rw[List.cons.inj e|>.1]at hc;cases hc
   rw[aG,aF,aF,show((c::r)==([]:ag))=false from rfl,bz (λ_=>h0),lt_eq,ne,nc,bz (λh=>by cases h),lt_eq];refine⟨_,_,rfl,rfl,?_⟩;show cond (cond (sV (bg (c::r) 0)) true false) true false=cond (cond (pC (bg (c::r) 0)) true false) true (cond false _ false);show cond (cond (sV (bg (c::r) 0)) true false) true false=cond (cond (sV (bg (c::r) 0)) true false) true false;rfl
  ·have ec:c=45:=eq_of_beq hc;subst ec;rw[aB,bz ⟨by show(0:Int)≤1;omega,by show(1:Int)≤_;exact hl⟩,aF,aF];cases r with
   |nil=>exact⟨_,_,rfl,rfl,rfl⟩
   |cons d r=>
    have e3:sub (45::d::r) (ln ([45]:ag)) (ln (45::d::r))=d::r:=by
     unfold sub;show((45::d::r).drop 1).take ((ln (45::d::r)).toNat-1)=d::r;rw[List.drop_succ_cons,du,List.take_of_length_le];unfold ln;simp only[cN];omega
    rw[e3,show((d::r)==([]:ag))=false from rfl,bz (λ_=>⟨by omega,by unfold ln;simp only[cN];omega⟩),lt_eq];rw[show((45::d::r)==([45]:ag))=false from rfl,bz (λ_ _=>⟨by omega,by unfold ln;simp only[cN];omega⟩),lt_eq];refine⟨_,_,rfl,rfl,?_⟩;have e4:pC (bg (45::d::r) 0)=false:=rfl;have e5:mw (45::d::r)=(d==45):=by
     unfold mw;rw[cB (by unfold ln;simp only[cN];omega),aB];show([45,d]==[45,45])=_;cases hd:(d==45)
     ·exact bM.2 λe=>by rw[List.cons.inj (List.cons.inj e).2|>.1]at hd;cases hd
     ·rw[eq_of_beq hd];rfl
    rw[e4,e5];show cond (cond (sV (bg (d::r) 0)) (!(d==45)) false) true false=cond (cond false true false) true (pC (bg (d::r) 0));cases hd:(d==45)
    ·show cond (cond (sV (bg (d::r) 0)) true false) true false=sV (bg (d::r) 0);cases sV (bg (d::r) 0)<;>rfl
    ·rw[eq_of_beq hd];rfl
theorem aeI(k:Int):(k==k)=true:=by simp
theorem a1y(t:bW)(h:tz t≤1048576):∃b,Ck t=some b∧GU FU t=some b:=by
 obtain⟨K,T,n,U,f⟩:=t;have hT:T.length≤1048576:=by unfold tz at h;simp only at h;omega
 have hU:U.length≤1048576:=by unfold tz at h;simp only at h;omega
 have hTU:T.length+U.length≤1048576:=h;unfold Ck GU;simp only[lt_eq];rw[bz (by unfold ln;omega)];simp only[a1r,aek,a1u T hT,a1u U hU,aeI,kR,oF];have zT:(T==[])=true→zb T=false:=λe=>by rw[eq_of_beq e];rfl
 have zU:(U==[])=true→zb U=false:=λe=>by rw[eq_of_beq e];rfl
 generalize zb U=b2 at*;by_cases k1:K=1∨K=2∨K=3
 ·have e:((cond (K==1) (some (K==1)) (cond (K==2) (some (K==2)) (some (K==3)))):Option Bool)=some true:=by rcases k1 with rfl|rfl|rfl<;>rfl
  rw[e];generalize zb T=b1 at*;cases qz:(T==[])<;>cases my:(U==[])<;>cases hN:(n==0)<;>cases f<;>cases b1<;>cases b2<;>first|exact⟨_,rfl,rfl⟩|exact absurd (zT qz) (by decide)|exact absurd (zU my) (by decide)
 by_cases k4:K=4
 ·subst k4;simp only[show((4:Int)==1)=false from rfl,show((4:Int)==2)=false from rfl,show((4:Int)==3)=false from rfl,show((4:Int)==4)=true from rfl,show((4:Int)==5)=false from rfl,show((4:Int)==6)=false from rfl,show((4:Int)==7)=false from rfl,show((4:Int)==8)=false from rfl,show((4:Int)==9)=false from rfl,show((4:Int)==10)=false from rfl,show((4:Int)==11)=false from rfl,show((4:Int)==12)=false from rfl,aG,aB,aF];cases qz:(T==[])
  ·obtain⟨nb,b,h1,h2,h3⟩:=aeH T qz;rw[h1,h2,VH,←h3];generalize zb T=b1 at*;generalize mw T=cu at*;generalize(T==[45])=t5 at*;cases my:(U==[])<;>cases hN:(n==0)<;>cases f<;>cases b1<;>cases b2<;>cases nb<;>cases cu<;>cases t5<;>first|exact⟨_,rfl,rfl⟩|exact absurd (zU my) (by decide)
  ·have hz:=zT qz;have hT1:T=[]:=eq_of_beq qz;subst hT1;rw[hz];cases my:(U==[])<;>cases hN:(n==0)<;>cases f<;>cases b2<;>first|exact⟨_,rfl,rfl⟩|exact absurd (zU my) (by decide)
 by_cases k5:K=5∨K=7
 ·generalize zb T=b1 at*;rcases k5 with rfl|rfl
  ·simp only[show((5:Int)==1)=false from rfl,show((5:Int)==2)=false from rfl,show((5:Int)==3)=false from rfl,show((5:Int)==4)=false from rfl,show((5:Int)==5)=true from rfl,show((5:Int)==6)=false from rfl,show((5:Int)==7)=false from rfl,show((5:Int)==8)=false from rfl,show((5:Int)==9)=false from rfl,show((5:Int)==10)=false from rfl,show((5:Int)==11)=false from rfl,show((5:Int)==12)=false from rfl,aG,aB,aF];cases qz:(T==[])<;>cases my:(U==[])<;>cases hN:(n==0)<;>cases f<;>cases b1<;>cases b2<;>first|exact⟨_,rfl,rfl⟩|exact absurd (zT qz) (by decide)|exact absurd (zU my) (by decide)
  simp only[show((7:Int)==1)=false from rfl,show((7:Int)==2)=false from rfl,show((7:Int)==3)=false from rfl,show((7:Int)==4)=false from rfl,show((7:Int)==5)=false from rfl,show((7:Int)==6)=false from rfl,show((7:Int)==7)=true from rfl,show((7:Int)==8)=false from rfl,show((7:Int)==9)=false from rfl,show((7:Int)==10)=false from rfl,show((7:Int)==11)=false from rfl,show((7:Int)==12)=false from rfl,aG,aB,aF];cases qz:(T==[])<;>cases my:(U==[])<;>cases hN:(n==0)<;>cases f<;>cases b1<;>cases b2<;>first|exact⟨_,rfl,rfl⟩|exact absurd (zT qz) (by decide)|exact absurd (zU my) (by decide)
 by_cases k9:K=9
 ·subst k9;simp only[show((9:Int)==1)=false from rfl,show((9:Int)==2)=false from rfl,show((9:Int)==3)=false from rfl,show((9:Int)==4)=false from rfl,show((9:Int)==5)=false from rfl,show((9:Int)==6)=false from rfl,show((9:Int)==7)=false from rfl,show((9:Int)==8)=false from rfl,show((9:Int)==9)=true from rfl,show((9:Int)==10)=false from rfl,show((9:Int)==11)=false from rfl,show((9:Int)==12)=false from rfl,aG,aB,aF];by_cases hl:T.length=1
  ·obtain⟨c,rfl⟩:∃c,T=[c]:=by
    match T,hl with
    |[c],_=>exact⟨c,rfl⟩
   obtain⟨a,b,h1,h2,h3⟩:=aeF c;have h0:0≤(0:Int)∧(0:Int)<ln [c]:=⟨by omega,by show(0:Int)<1;omega⟩;have hz:zb [c]=(c==0):=by unfold zb;simp
   unfold PH at h1;simp only[lt_eq]at h1;rw[bz (λ_=>h0)]at h1;rw[h2,hz,show(ln [c]==1)=true from rfl,bz (λ_=>h0),bz (λ_=>h0)];have h45:(c==0)=true→([c]==([45]:ag))=false:=λe=>by rw[eq_of_beq e];rfl
   have hb:(c==0)=true→b=false∨a=b:=λe=>by
    rcases h3 with h3|h3
    ·exact Or.inl h3.2
    ·exact Or.inr h3
   have hb0:(c==0)=true→b=false:=λe=>by
    have hc:c=0:=eq_of_beq e;have hh:(DD FU (bg [(0:UInt8)] 0))=some false:=by kernel_rfl
    rw[hc]at h2;rw[h2]at hh;exact Option.some.inj hh
   have vl:(c==0)=false→a=b:=λe=>by
    rcases h3 with h3|h3
    ·rw[h3.1]at e;cases e
    ·exact h3
   generalize strings_Contains [32,9,10,12,13,34,39,58,59,44,91,93,40,41,123,125] [c]=C at*;generalize([c]==([45]:ag))=p at*;generalize(!(Fo (bg [c] 0)))=nm at*;generalize(c==0)=z at*;cases z
   ·obtain rfl:=vl rfl;cases C with
    |none=>
     cases nm<;>cases p<;>first|(cases h1;done)|(obtain rfl:=Option.some.inj h1;cases my:(U==[])<;>cases hN:(n==0)<;>cases f<;>cases b2<;>first|exact⟨_,rfl,rfl⟩|exact absurd (zU my) (by decide))
    |some y=>
     have h1:some (cond (cond (cond true nm false) true p) (!y) false)=some a:=by rw[←h1];cases nm<;>cases p<;>rfl
     obtain rfl:=Option.some.inj h1;cases nm<;>cases p<;>cases y<;>cases my:(U==[])<;>cases hN:(n==0)<;>cases f<;>cases b2<;>first|exact⟨_,rfl,rfl⟩|exact absurd (zU my) (by decide)
   ·obtain rfl:=hb0 rfl;obtain rfl:=h45 rfl;cases nm<;>cases my:(U==[])<;>cases hN:(n==0)<;>cases f<;>cases b2<;>first|exact⟨_,rfl,rfl⟩|exact absurd (zU my) (by decide)
  ·have e1:(ln T==1)=false:=bM.2 λe=>hl (by unfold ln at e;omega);have e2:(T==([45]:ag))=false:=bM.2 λe=>hl (by rw[e];rfl);rw[e1,e2];have e3:cond (!(zb T||b2)) false false=false:=by cases(!(zb T||b2))<;>rfl
   rw[e3,bz (λh=>by cases h),bz (λh=>by cases h)];cases(U==[])<;>cases(n==0)<;>cases f<;>exact⟨_,rfl,rfl⟩
 by_cases Ek:K=10∨K=11∨K=12
 ·generalize zb T=b1 at*;generalize(Int.tmod n 1000==0)=m1 at*;generalize decide (-1000000000000≤n)=r1 at*;generalize decide (n≤1000000000000)=r2 at*;rcases Ek with rfl|rfl|rfl
  ·simp only[show((10:Int)==1)=false from rfl,show((10:Int)==2)=false from rfl,show((10:Int)==3)=false from rfl,show((10:Int)==4)=false from rfl,show((10:Int)==5)=false from rfl,show((10:Int)==6)=false from rfl,show((10:Int)==7)=false from rfl,show((10:Int)==8)=false from rfl,show((10:Int)==9)=false from rfl,show((10:Int)==10)=true from rfl,show((10:Int)==11)=false from rfl,show((10:Int)==12)=false from rfl,show((10:Int) !=11)=true from rfl,aG,aB,aF];cases qz:(T==[])<;>cases my:(U==[])<;>cases f<;>cases b1<;>cases b2<;>first|exact absurd (zT qz) (by decide)|exact absurd (zU my) (by decide)|(cases r1<;>cases r2<;>cases m1<;>exact⟨_,rfl,rfl⟩)
  ·simp only[show((11:Int)==1)=false from rfl,show((11:Int)==2)=false from rfl,show((11:Int)==3)=false from rfl,show((11:Int)==4)=false from rfl,show((11:Int)==5)=false from rfl,show((11:Int)==6)=false from rfl,show((11:Int)==7)=false from rfl,show((11:Int)==8)=false from rfl,show((11:Int)==9)=false from rfl,show((11:Int)==10)=false from rfl,show((11:Int)==11)=true from rfl,show((11:Int)==12)=false from rfl,show((11:Int) !=11)=false from rfl,aG,aB,aF];cases qz:(T==[])<;>cases my:(U==[])<;>cases f<;>cases b1<;>cases b2<;>first|exact absurd (zT qz) (by decide)|exact absurd (zU my) (by decide)|(cases r1<;>cases r2<;>cases m1<;>exact⟨_,rfl,rfl⟩)
  simp only[show((12:Int)==1)=false from rfl,show((12:Int)==2)=false from rfl,show((12:Int)==3)=false from rfl,show((12:Int)==4)=false from rfl,show((12:Int)==5)=false from rfl,show((12:Int)==6)=false from rfl,show((12:Int)==7)=false from rfl,show((12:Int)==8)=false from rfl,show((12:Int)==9)=false from rfl,show((12:Int)==10)=false from rfl,show((12:Int)==11)=false from rfl,show((12:Int)==12)=true from rfl,show((12:Int) !=11)=true from rfl,aG,aB,aF];cases qz:(T==[])<;>cases my:(U==[])<;>cases f<;>cases b1<;>cases b2<;>first|exact absurd (zT qz) (by decide)|exact absurd (zU my) (by decide)|(cases r1<;>cases r2<;>cases m1<;>exact⟨_,rfl,rfl⟩)
 by_cases k6:K=6∨K=8
 ·rcases k6 with rfl|rfl<;>exact⟨_,rfl,rfl⟩
 ·have e1:(K==1)=false:=bM.2 λe=>k1 (Or.inl e);have e2:(K==2)=false:=bM.2 λe=>k1 (Or.inr (Or.inl e));have e3:(K==3)=false:=bM.2 λe=>k1 (Or.inr (Or.inr e));have e4:(K==4)=false:=bM.2 k4;have e5:(K==5)=false:=bM.2 λe=>k5 (Or.inl e);have e7:(K==7)=false:=bM.2 λe=>k5 (Or.inr e);have e9:(K==9)=false:=bM.2 k9;have e10:(K==10)=false:=bM.2 λe=>Ek (Or.inl e);have e11:(K==11)=false:=bM.2 λe=>Ek (Or.inr (Or.inl e));have zw:(K==12)=false:=bM.2 λe=>Ek (Or.inr (Or.inr e));have e6:(K==6)=false:=bM.2 λe=>k6 (Or.inl e);have e8:(K==8)=false:=bM.2 λe=>k6 (Or.inr e);have ek:decide (1≤K)=decide (13≤K):=by
   by_cases hk:13≤K
   ·rw[cB hk,cB (by omega)]
   ·rw[cv hk];refine cv λh1=>?_;omega
  simp only[e1,e2,e3,e4,e5,e6,e7,e8,e9,e10,e11,zw,aG,aF,ek];generalize decide (13≤K)=r1;generalize decide (K≤24)=r2;cases r1<;>cases r2<;>cases(T==[])<;>cases(U==[])<;>cases(n==0)<;>cases f<;>exact⟨_,rfl,rfl⟩
def fin(t:bW):Bool:=(Ck t).getD false
theorem aeJ(t:bW)(h:tz t≤1048576):Ck t=some (fin t):=by obtain⟨b,h1,_⟩:=a1y t h;unfold fin;rw[h1];rfl
theorem aeK(t:bW)(h:tz t≤1048576):GU FU t=some (fin t):=by obtain⟨b,h1,h2⟩:=a1y t h;unfold fin;rw[h1,h2];rfl
def kd(l:List bW)(j:Nat)(k:Int):Bool:=cond (decide (j<l.length)) ((gi l (j:Int)).a7==k) false
theorem a1z{α:Type}[Inhabited α](l:List α)(i j:Nat):gi (l.drop i) (j:Int)=gi l ((i+j:Nat):Int):=by
 unfold gi;rw[Int.toNat_natCast,Int.toNat_natCast];simp[List.getD_eq_getElem?_getD,List.getElem?_drop]
theorem a1A(l:List bW)(i j:Nat)(k:Int):Cq (j:Int) k (l.drop i)=some (kd l (i+j) k):=by
 unfold Cq kd;rw[bz (λh=>⟨by omega,jH h⟩),lt_eq,a1z];have:decide ((j:Int)<ln (l.drop i))=decide (i+j<l.length):=by
  unfold ln;rw[List.length_drop];by_cases h:i+j<l.length
  ·rw[cB h,cB (by omega)]
  ·rw[cv h,cv (by omega)]
 rw[this]
def M3:ag:=[117,114,108]
def El(x:bW):Bool:=cond (x.a7==9) (x.bU==[92]) false
def VJ(x:bW):Bool:=cond (x.a7==2) (lw x.bU==lw M3) false
def VK(l:List bW)(i:Nat):Bool:=cond (El (gi l (i:Int))) (!(kd l (i+1) 13)) (cond (VJ (gi l (i:Int))) (!(kd l (i+cond (kd l (i+1) 13) 2 1) 5)) false)
theorem aeL(l:List bW)(i:Nat)(hi:i<l.length)(hl:l.length≤4000000)(ht:tz (gi l (i:Int))≤1048576):∃n,Js FU (l.drop i)=some n∧(n==0)=VK l i:=by
 unfold Js VK;have h0:0≤(0:Int)∧(0:Int)<ln (l.drop i):=⟨by omega,by unfold ln;rw[List.length_drop];omega⟩;have e0:gi (l.drop i) (0:Int)=gi l (i:Int):=a1z l i 0;have p1:=a1A l i 1;have p2:=a1A l i 2;have hT:(gi l (i:Int)).bU.length≤1048576:=by unfold tz at ht;omega
 rw[bz h0,lt_eq,e0,show(1:Int)=((1:Nat):Int)from rfl,p1 13,aei _ _ hT (by decide)];unfold El VJ;cases(cond ((gi l (i:Int)).a7==9) ((gi l (i:Int)).bU==[92]) false)
 ·cases hk:((gi l (i:Int)).a7==2)
  ·exact⟨1,rfl,rfl⟩
  ·rw[aG,aG,aB,aF,lt_eq,aB,aB];show∃n,cond (lw (gi l (i:Int)).bU==lw M3) _ _=_∧_;cases(lw (gi l (i:Int)).bU==lw M3)
   ·exact⟨_,rfl,rfl⟩
   ·rw[aB,aB,aF];cases kd l (i+1) 13
    ·rw[aG,aG,aF,p1 5,aF];cases kd l (i+1) 5
     ·exact⟨0,rfl,rfl⟩
     ·exact⟨_,rfl,by decide⟩
    ·rw[aB,aB,aF,show(2:Int)=((2:Nat):Int)from rfl,p2 5,aF];cases kd l (i+2) 5
     ·exact⟨0,rfl,rfl⟩
     ·exact⟨_,rfl,by decide⟩
 ·rw[aB,aB,aF];cases kd l (i+1) 13
  ·exact⟨0,rfl,rfl⟩
  ·exact⟨2,rfl,rfl⟩
theorem aeM(l:List bW)(hl:l.length≤4000000)(ht:∀x∈l,tz x≤1048576):∀(kk i:Nat),l.length-i<kk→∃b,Fq FU l kk (i:Int)=some (cond b (.inl 8) (.inr ()))∧GV FU l kk (i:Int)=some (cond b (.inl 8) (.inr ())):=by
 intro kk
 induction kk with
 |zero=>intro i h;omega
 |succ kk ih=>
  intro i h;rw[Fq,GV];by_cases h1:i<l.length
  ·have hm:=fY h1;have hx:=ht _ hm;have hT:(gi l (i:Int)).bU.length≤1048576:=by unfold tz at hx;omega
   obtain⟨b,vl,xj⟩:=ih (i+1) (by omega);have vm:eY l (i:Int) (ln l)=l.drop i:=by
    unfold eY;show(l.drop i).take (l.length-i)=l.drop i;rw[List.take_of_length_le (by rw[List.length_drop];omega)]
   obtain⟨n,qG,qH⟩:=aeL l i h1 hl hx;rw[ct h1,aB,aB,bR h1,bR h1,aeJ _ hx,aeK _ hx,aF,aF,lt_eq];cases fin (gi l (i:Int))
   ·exact⟨true,rfl,rfl⟩
   ·rw[fL,aG,aG,bz ⟨by omega,by unfold ln;omega,Int.le_refl _⟩,lt_eq,vm,qG,aF,aF,qH,bG (by omega),vl,xj];have e13:au (decide (((i+1:Nat):Int)<ln l)=true→0≤((i+1:Nat):Int)∧((i+1:Nat):Int)<ln l)=λ(k:Option Int)=>k:=funext λk=>bz (λh=>⟨by omega,jH h⟩);have ek:∀k:Int,cond (decide (((i+1:Nat):Int)<ln l)) ((gi l ((i+1:Nat):Int)).a7==k) false=kd l (i+1) k:=λk=>by
     unfold kd;rw[show decide (((i+1:Nat):Int)<ln l)=decide (i+1<l.length)from by
      unfold ln;by_cases h:i+1<l.length
      ·rw[cB h,cB (by omega)]
      ·rw[cv h,cv (by omega)]]
    have eb:cond (((i+1:Nat):Int)==ln l) true ((gi l ((i+1:Nat):Int)).a7 !=13)=!(kd l (i+1) 13):=by
     unfold kd;by_cases h:i+1<l.length
     ·rw[show(((i+1:Nat):Int)==ln l)=false from bM.2 (by unfold ln;omega),cB h];rfl
     ·rw[show(((i+1:Nat):Int)==ln l)=true from by rw[beq_iff_eq];unfold ln;omega,cv h];rfl
    have e5:∀j:Nat,cond (decide (ln l≤(j:Int))) true ((gi l (j:Int)).a7 !=5)=!(kd l j 5):=λj=>by
     unfold kd;by_cases h:j<l.length
     ·rw[cB h,cv (by unfold ln;omega)];rfl
     ·rw[cv h,cB (by unfold ln;omega)];rfl
    have e42:cond ((gi l (i:Int)).a7==9) ((gi l (i:Int)).bU==[92]) false=El (gi l (i:Int)):=rfl;rw[e42,eb,aej _ _ hT (by decide)];have c42:∀k:Option (Sum Int Unit),au ((((i+1:Nat):Int)==ln l)=false→El (gi l (i:Int))=true→0≤((i+1:Nat):Int)∧((i+1:Nat):Int)<ln l) k=k:=λk=>bz (λh _=>⟨by omega,by have:=bM.1 h;unfold ln at this⊢;omega⟩);have hz:Option.bind (au (decide (((i+1:Nat):Int)<ln l)=true→0≤((i+1:Nat):Int)∧((i+1:Nat):Int)<ln l)<|
      lt (cond (decide (((i+1:Nat):Int)<ln l)) ((gi l ((i+1:Nat):Int)).a7==13) false) λgU=>
      cond gU (some (a8 (((i+1:Nat):Int)+1))) (some ((i+1:Nat):Int))) (λ(kq:Int)=>
      au (decide (ln l≤kq)=false→0≤kq∧kq<ln l)<|
      lt (cond (decide (ln l≤kq)) true ((gi l kq).a7 !=5)) λs0=>
      cond s0 (some (Sum.inl (Sum.inl 8))) (some (.inr ()):Option (Sum (Sum Int Unit) Unit)))=some (cond (!(kd l (i+cond (kd l (i+1) 13) 2 1) 5)) (.inl (.inl 8)) (.inr ())):=by
     rw[bz (λh=>⟨by omega,jH h⟩),lt_eq,ek,bG (by omega)];cases kd l (i+1) 13
     ·rw[aG,aG,aF,bz (λh=>⟨by omega,by have:=of_decide_eq_false h;omega⟩),lt_eq,e5];cases(!(kd l (i+1) 5))<;>rfl
     ·rw[aB,aB,aF,bz (λh=>⟨by omega,by have:=of_decide_eq_false h;omega⟩),lt_eq,show i+1+1=i+2 from rfl,e5];cases(!(kd l (i+2) 5))<;>rfl
    rw[hz];unfold VK;have hbu:El (gi l (i:Int))=true→((gi l (i:Int)).a7==2)=false:=λh=>by
     unfold El at h;cases hk:((gi l (i:Int)).a7==9)
     ·rw[hk]at h;cases h
     ·rw[eq_of_beq hk];rfl
    simp only[lt_eq,c42];cases hb:El (gi l (i:Int))
    ·unfold VJ;cases((gi l (i:Int)).a7==2)
     ·exact⟨b,rfl,rfl⟩
     ·simp only[aB,aG,aF];show∃b',_=some (cond b' _ _)∧Option.bind (cond (lw (gi l (i:Int)).bU==lw M3) _ _) _=_;cases(lw (gi l (i:Int)).bU==lw M3)
      ·exact⟨b,rfl,rfl⟩
      ·cases kd l (i+cond (kd l (i+1) 13) 2 1) 5
       ·exact⟨true,rfl,rfl⟩
       ·exact⟨b,rfl,rfl⟩
    ·rw[hbu hb];cases kd l (i+1) 13
     ·exact⟨true,rfl,rfl⟩
     ·exact⟨b,rfl,rfl⟩
  ·rw[cq (by omega)];exact⟨false,rfl,rfl⟩
theorem aeN(l:List bW)(hl:l.length≤4000000)(ht:∀x∈l,tz x≤1048576):∃e,Ct FU l=some e∧GW FU l=some e:=by
 unfold Ct GW;by_cases h:1500<ln l
 ·rw[cB h];exact⟨4,rfl,rfl⟩
 ·rw[cv h,aG,aG];obtain⟨b,h1,h2⟩:=aeM l hl ht FU 0 (by unfold ln at h;unfold FU;omega);rw[show Fq FU l FU 0=_ from h1,show GV FU l FU 0=_ from h2];cases b
  ·exact⟨0,rfl,rfl⟩
  ·exact⟨8,rfl,rfl⟩
mutual
def Bg:aj→Bool
 | .mk t l=>cond (cond (cond (t.a7==20) true (t.a7==22)) true (t.a7==24)) true (sD l)
def sD:List aj→Bool
 |[]=>false
 |x::r=>Bg x||sD r
end
theorem a1B(x:aj):Bg x=cond (cond (cond (x.ay.a7==20) true (x.ay.a7==22)) true (x.ay.a7==24)) true (sD x.J):=by obtain⟨t,l⟩:=x;rw[Bg];rfl
theorem VL:∀l:List aj,sD l=l.any Bg
 |[]=>by rw[sD];rfl
 |x::r=>by rw[sD,VL r];rfl
theorem aeO:∀(k:Nat)(v:List aj),cj v<k→cj v≤1048576→zY FU k v=some (sD v):=by
 intro k
 induction k with
 |zero=>intro v h;omega
 |succ k ih=>
  intro v h hb;have hl:=jz v;have h1:∀x∈v,Jv FU (zY FU k) x=some (Bg x):=λx hx=>by
   have h2:=kM hx;have h3:=lB x;unfold Jv gX;rw[lt_eq,a1B,ih x.J (by omega) (by omega)];cases(cond (cond (x.ay.a7==20) true (x.ay.a7==22)) true (x.ay.a7==24))<;>rfl
  rw[zY];unfold Nu Nt;rw[Bd (Fu FU (zY FU k) v) v Bg (by omega) (λkk i hi hm=>by rw[Fu,ct hi,aB,bR hi,h1 _ hm,aF,bG (by omega)]) (λkk i hi=>by rw[Fu,cq hi];rfl),VL];rfl
theorem aeP:∀(k:Nat)(v:List aj),cj v<k→cj v≤1048576→DE FU k v=some (sD v):=by
 intro k
 induction k with
 |zero=>intro v h;omega
 |succ k ih=>
  intro v h hb;have hl:=jz v;rw[DE,pd (GX FU v (DE FU k)) v Bg (some (.inl true)) (some (.inr ())) (by omega) (λkk i hi hm=>by
   have h2:=kM hm;have h3:=lB (gi v (i:Int));rw[GX,ct hi,aB,bR hi,lt_eq,lt_eq,ih (gi v (i:Int)).J (by omega) (by omega),a1B,bG (by omega)];cases(cond (cond ((gi v (i:Int)).ay.a7==20) true ((gi v (i:Int)).ay.a7==22)) true ((gi v (i:Int)).ay.a7==24))<;>rfl) (λkk i hi=>by rw[GX,cq hi];rfl),VL]
  cases v.any Bg<;>rfl
def pe(v:List aj):Bool:=(gi v (0:Int)).ay.a7==13
def pI(v:List aj):Bool:=(gi v (a8 (ln v-1))).ay.a7==13
theorem PI{α:Type}{v:List α}(h:0<v.length)(hl:v.length≤1048576):0≤a8 (ln v-1)∧a8 (ln v-1)<ln v:=by
 unfold ln;rw[o5 (by omega) (by omega)];omega
theorem aeQ:∀(kk:Nat)(v:List aj),v.length<kk→v.length≤1048576→∃q,GY FU kk v=some q∧q.length≤v.length∧(v.length=0∨pe v=false→q=v)∧(0<v.length→pe v=true→q.length<v.length):=by
 intro kk
 induction kk with
 |zero=>intro v h;omega
 |succ kk ih=>
  intro v h hl;rw[GY,bz (λh=>⟨by omega,jH h⟩),lt_eq];by_cases h0:v.length=0
  ·rw[show decide (0<ln v)=false from cv (by unfold ln;omega)];exact⟨v,rfl,dz _,λ_=>rfl,λh=>by omega⟩
  ·rw[show decide (0<ln v)=true from cB (by unfold ln;omega),aB];show∃q,cond (pe v) _ _=_∧_;cases hs:pe v
   ·exact⟨v,rfl,dz _,λ_=>rfl,λ_ h=>by cases h⟩
   ·have e:eY v 1 (ln v)=v.drop 1:=by
     unfold eY;show(v.drop 1).take (v.length-1)=v.drop 1;rw[List.take_of_length_le (by rw[List.length_drop];omega)]
    have hd:(v.drop 1).length=v.length-1:=List.length_drop;obtain⟨q,h1,h2,_,_⟩:=ih (v.drop 1) (by omega) (by omega);rw[aB,bz ⟨by omega,by unfold ln;omega,Int.le_refl _⟩,lt_eq,e,h1];exact⟨q,rfl,by omega,(λh=>by rcases h with h|h<;>first|omega|cases h),λ_ _=>by omega⟩
theorem aeR:∀(kk:Nat)(v:List aj),v.length<kk→v.length≤1048576→∃q,GZ FU kk v=some q∧q.length≤v.length∧(v.length=0∨pI v=false→q=v)∧(0<v.length→pI v=true→q.length<v.length):=by
 intro kk
 induction kk with
 |zero=>intro v h;omega
 |succ kk ih=>
  intro v h hl;rw[GZ,bz (λh=>PI (by have:=jH h;unfold ln at this;omega) hl),lt_eq];by_cases h0:v.length=0
  ·rw[show decide (0<ln v)=false from cv (by unfold ln;omega)];exact⟨v,rfl,dz _,λ_=>rfl,λh=>by omega⟩
  ·rw[show decide (0<ln v)=true from cB (by unfold ln;omega),aB];show∃q,cond (pI v) _ _=_∧_;cases hs:pI v
   ·exact⟨v,rfl,dz _,λ_=>rfl,λ_ h=>by cases h⟩
   ·have hi:=PI (v:=v) (by omega) hl;have hw:a8 (ln v-1)=((v.length-1:Nat):Int):=by unfold ln;rw[o5 (by omega) (by omega)];omega
    have e:eY v 0 (a8 (ln v-1))=v.take (v.length-1):=by
     rw[hw];unfold eY;rfl
    have hd:(v.take (v.length-1)).length=v.length-1:=by rw[List.length_take];omega
    obtain⟨q,h1,h2,_,_⟩:=ih (v.take (v.length-1)) (by omega) (by omega);rw[aB,bz ⟨by omega,hi.1,by omega⟩,lt_eq,e,h1];exact⟨q,rfl,by omega,(λh=>by rcases h with h|h<;>first|omega|cases h),λ_ _=>by omega⟩
theorem aeS(v:List aj)(hl:v.length≤1048576):∃q,KX FU v=some q∧q.length≤v.length∧(ln q !=ln v)=cond (decide (0<ln v)) (cond (pe v) true (pI v)) false∧(cond (decide (0<ln v)) (cond (pe v) true (pI v)) false=false→q=v):=by
 obtain⟨q1,a1,a2,a3,a4⟩:=aeQ FU v (by unfold FU;omega) hl;obtain⟨q2,b1,b2,b3,b4⟩:=aeR FU q1 (by unfold FU;omega) (by omega);refine⟨q2,by unfold KX;rw[a1,aF,b1];rfl,by omega,?_⟩;by_cases h0:v.length=0
 ·have e1:=a3 (Or.inl h0);subst e1;have e2:=b3 (Or.inl h0);subst e2;rw[show decide (0<ln q2)=false from cv (by unfold ln;omega)];exact⟨by simp,λ_=>rfl⟩
 ·rw[show decide (0<ln v)=true from cB (by unfold ln;omega),aB];cases hs:pe v
  ·have e1:=a3 (Or.inr hs);subst e1;cases ht:pI q1
   ·have e2:=b3 (Or.inr ht);subst e2;exact⟨by simp,λ_=>rfl⟩
   ·have:=b4 (by omega) ht;exact⟨bne_iff_ne.2 (by unfold ln;omega),λh=>by cases h⟩
  ·have:=a4 (by omega) hs;exact⟨bne_iff_ne.2 (by unfold ln;omega),λh=>by cases h⟩
def M4(v:List aj):Bool:=(Ct FU (iG v)).getD 0 !=0
theorem a1C(v:List aj)(hb:cj v≤1048576):∃e,Ct FU (iG v)=some e∧GW FU (iG v)=some e∧(e !=0)=M4 v:=by
 have h1:=PG (cj v) v (dz _);have h2:=VI v;obtain⟨e,a,b⟩:=aeN (iG v) (by omega) (λt ht=>by have:=aeD (cj v) v (dz _) t ht;omega);exact⟨e,a,b,by unfold M4;rw[a];rfl⟩
def Bh(x:aj):Bool:=cond (x.ay.a7==17) true (cond (x.ay.a7==9) (x.ay.bU==[33]) false)
theorem aeT(v:List aj)(hl:v.length≤1048576):Jx FU v=some (v.any Bh):=by
 unfold Jx Nw;exact Bd (Fv FU v) v Bh hl (λkk i hi hm=>by rw[Fv,ct hi,aB,bR hi,bG (by omega)];rfl) (λkk i hi=>by rw[Fv,cq hi];rfl)
theorem aeU(v:List aj)(hl:v.length≤1048576):AL FU v FU 0=cond (v.any Bh) (some (.inl false)) (some (.inr ())):=
 pd (AL FU v) v Bh _ _ hl (λkk i hi hm=>by rw[AL,ct hi,aB,bR hi,lt_eq,bG (by omega)];rfl) (λkk i hi=>by rw[AL,cq hi];rfl)
def ke(d:cy):Bool:=!(Bf d.aO)||(gN d.Value !=0||(M4 d.Value||(sD d.Value||(d.Value.any Bh||(cond (ln d.Value==0) (!(mw d.aO)) false||cond (decide (0<ln d.Value)) (cond (pe d.Value) true (pI d.Value)) false)))))
theorem aeV(v:List aj)(hb:cj v≤1048576):Jk FU v=some (cond (gN v !=0) ([],gN v) (iG v,0)):=by
 unfold Jk;rw[Pl FU LP v hb,aF,aez v hb];cases(gN v !=0)<;>rfl
theorem a1D(d:cy)(hb:zD d≤1048576):Fw FU d=some (cond (ke d) 8 0):=by
 rw[rz]at hb;have hl:=jz d.Value;obtain⟨e,g1,g2,g3⟩:=a1C d.Value (by omega);unfold Fw ke;rw[aeV d.Value (by omega),aF,aes d.aO (by omega),aF,show Sb FU d.Value=some (sD d.Value)from aeO FU d.Value (by unfold FU;omega) (by omega),aeT d.Value (by omega),VH];cases hn:Bf d.aO
 ·rfl
 cases hc:(gN d.Value !=0)
 rotate_left
 ·simp only[aB,hc];rfl
 simp only[aG,g1,g3];simp only[fL,aG,show((0:Int) !=0)=false from rfl,aB,aF,lt_eq,g3];cases M4 d.Value
 rotate_left
 ·rfl
 simp only[aG,aF];cases sD d.Value
 rotate_left
 ·rfl
 simp only[aG];cases d.Value.any Bh
 rotate_left
 ·rfl
 simp only[aG];by_cases h0:d.Value.length=0
 ·have e1:(ln d.Value==0)=true:=by rw[beq_iff_eq];unfold ln;omega
  have e2:decide (0<ln d.Value)=false:=cv (by unfold ln;omega);rw[e1,e2,aB,aF,bz (λh=>by cases h),bz (λ_ h=>by cases h)];cases mw d.aO<;>rfl
 ·have e1:(ln d.Value==0)=false:=bM.2 (by unfold ln;omega);have e2:decide (0<ln d.Value)=true:=cB (by unfold ln;omega);rw[e1,e2,aG,aF,bz (λ_ _=>⟨by omega,by unfold ln;omega⟩),bz (λ_ _ _=>PI (by omega) (by omega))];show(cond (cond (pe d.Value) true (pI d.Value)) (some 8) (some 0):Option Int)=_;cases pe d.Value<;>cases pI d.Value<;>rfl
theorem a1E(d:cy)(hb:zD d≤1048576):H0 FU d=some (cond (ke d) 8 0):=by
 rw[rz]at hb;have hl:=jz d.Value;obtain⟨e,g1,g2,g3⟩:=a1C d.Value (by omega);obtain⟨q,t1,t2,t3,t4⟩:=aeS d.Value (by omega);unfold H0 ke;rw[aet d.aO (by omega),aF];cases hn:Bf d.aO
 ·rfl
 unfold P0;rw[a0O FU LP d.Value (by omega),aF,aeC d.Value (by omega),show Uo FU d.Value=some (sD d.Value)from aeP FU d.Value (by unfold FU;omega) (by omega),t1,aeu];have hcu:cond (mw d.aO) (decide (2<ln d.aO)) false=mw d.aO:=by
  unfold Bf at hn;cases h:mw d.aO
  ·rfl
  ·rw[h,Bool.and_eq_true]at hn;exact hn.2
 rw[hcu];cases hc:(gN d.Value !=0)
 rotate_left
 ·rfl
 simp only[fL,aG,lt_eq,aF,g2,g3];cases M4 d.Value
 rotate_left
 ·rfl
 simp only[aG,aF];cases sD d.Value
 rotate_left
 ·rfl
 simp only[aG,t3,show AL FU d.Value FU 0=_ from aeU d.Value (by omega)];by_cases h0:d.Value.length=0
 ·have e1:(ln d.Value==0)=true:=by rw[beq_iff_eq];unfold ln;omega
  have e2:decide (0<ln d.Value)=false:=cv (by unfold ln;omega);rw[e1,e2];cases mw d.aO<;>cases d.Value.any Bh<;>rfl
 ·have e1:(ln d.Value==0)=false:=bM.2 (by unfold ln;omega);have e2:decide (0<ln d.Value)=true:=cB (by unfold ln;omega);rw[e1,e2];cases pe d.Value<;>cases pI d.Value<;>cases d.Value.any Bh<;>rfl
theorem aeW(a:sK):(Fc a==0)=uX a:=by
 unfold Fc zG uX;simp only[lt_eq];cases decide ((-1000000000)≤a.A)<;>cases decide (a.A≤1000000000)<;>cases decide ((-1000000000)≤a.B)<;>cases decide (a.B≤1000000000)<;>rfl
theorem VM{α:Type}(l:List α):decide (0<ln l)=!(ln l==0):=by
 by_cases h:l.length=0
 ·rw[show(ln l==0)=true from by rw[beq_iff_eq];unfold ln;omega,cv (by unfold ln;omega)];rfl
 ·rw[show(ln l==0)=false from bM.2 (by unfold ln;omega),cB (by unfold ln;omega)];rfl
section
variable (R1:bo→j7→Bool→Option Bool) (R2:bo→jZ→Bool→Option Bool)
theorem aeX(l:List bo)(d:Int)(h:Bool)(K:Int)(N:ag)(O:Int)(V:ag)(f:Bool)(a b:Int)(G:Bool)(L:List bo)(hl:l.length≤1048576)(hr:∀x∈l,∃q,R1 x ⟨d,h⟩ (K==14)=some q∧R2 x ⟨d,h⟩ (K==14)=some q):
  ∃q,Ff FU R1 l d h K N O V f a b G L=some q∧Ax FU R2 l K (⟨d,h⟩,true) FU 0=cond q (some (.inl false)) (some (.inr ())):=by
 refine⟨l.any λx=>!((R1 x ⟨d,h⟩ (K==14)).getD false),?_,?_⟩
 ·unfold Ff Ng;refine Bd (Fe FU R1 l d h K N O V f a b G L) l _ hl (λkk i hi hm=>?_) (λkk i hi=>by rw[Fe,cq hi];rfl);obtain⟨q,h1,h2⟩:=hr _ hm;rw[Fe,ct hi,aB,bR hi,bG (by omega)];unfold Nc;rw[h1];rfl
 ·refine pd (Ax FU R2 l K (⟨d,h⟩,true)) l _ _ _ hl (λkk i hi hm=>?_) (λkk i hi=>by rw[Ax,cq hi];rfl);obtain⟨q,h1,h2⟩:=hr _ hm;rw[Ax,ct hi,aB,bR hi,bG (by omega),h2,h1];rfl
def M5(d:Int)(h:Bool)(K:Int):Bool:=cond (d==3) true (cond h (K==14) false)
theorem aeY(x:dw)(d:Int)(h:Bool)(hx:zS x≤1048576)(hr:∀y∈x.J,∀d h rel,∃q,R1 y ⟨d,h⟩ rel=some q∧R2 y ⟨d,h⟩ rel=some q):
  ∃q,xI FU R1 x ⟨d,h⟩=some q∧Gz FU R2 x ⟨d,h⟩=some q:=by
 rw[wY]at hx;have hl:=nX x.J;obtain⟨q,l1,l2⟩:=aeX R1 R2 x.J (a8 (d+1)) (cond h true (x.a7==14)) x.a7 x.aO x.Op x.Value x.lY x.dp.A x.dp.B x.Of x.J (by omega) (λy hy=>hr y hy _ _ _);have hn:=VG x.aO (by omega);have Q9:=a1v x.aO (by omega);have Qa:=a1w x.aO (by omega);have hv:=a1t x.Value 400 (by omega);have a1F:Dl FU R2 x.J ⟨d,h⟩ x.a7=some (!(M5 d h x.a7)&&!q):=by
  unfold Dl Dk M5;simp only[lt_eq];have e:cond (d==3) true (cond (x.a7==14) h false)=cond (d==3) true (cond h (x.a7==14) false):=by cases(d==3)<;>cases h<;>cases(x.a7==14)<;>rfl
  rw[e];cases cond (d==3) true (cond h (x.a7==14) false)
  ·rw[aG];show Option.bind (Ax FU R2 x.J x.a7 (⟨a8 (d+1),cond h true (x.a7==14)⟩,true) FU 0) _=_;rw[l2];cases q<;>rfl
  ·rfl
 have a1G:(lt (zF ⟨d,h⟩ x.a7) λdC=>
   lt (cond (!dC.2) true (cond (!(xG x).2) (ln x.J==0) false)) λlq=>
   Option.bind (cond lq (some default) (Ff FU R1 x.J dC.1.cZ dC.1.has x.a7 x.aO x.Op x.Value x.lY x.dp.A x.dp.B x.Of x.J)) λlN=>
   cond (cond lq true lN) (some (.inl false)) (some (.inr ())):Option (Sum Bool Unit))=some (cond (cond (M5 d h x.a7) true (cond (cond (!(xG x).2) (ln x.J==0) false) true q)) (.inl false) (.inr ())):=by
  unfold zF M5;simp only[lt_eq];cases cond (d==3) true (cond h (x.a7==14) false)
  ·simp only[aG];rw[l1];cases(cond (!(xG x).2) (ln x.J==0) false)<;>cases q<;>rfl
  ·rfl
 unfold xI;rw[lt_eq,a1G];unfold Gz Di;rw[Q9,Qa,hn,hv,a1F,VM,aeW];simp only[lt_eq];generalize M5 d h x.a7=P;generalize(ln x.J==0)=lE;generalize decide (x.Op≤6)=o6;generalize h4:decide (4≤x.a7)=r1;generalize pJ:decide (x.a7≤14)=r2;clear a1G a1F l1 l2 hr hn Q9 Qa hv hl hx;obtain⟨K,N,O,V,F,⟨a,b⟩,G,L⟩:=x;unfold xG;simp only[dw.a7,dw.aO,dw.Op,dw.Value,dw.lY,dw.dp,dw.Of,dw.J,lt_eq,show(K==K)=true from by simp,show(N==N)=true from by simp,show(O==O)=true from by simp,show(V==V)=true from by simp,show(F==F)=true from by simp,show(a==a)=true from by simp,show(b==b)=true from by simp,show(G==G)=true from by simp,kR,oF];generalize HP N=s1;generalize mh N=nm;have eO:(O !=0)=!(O==0):=rfl;rw[eO];generalize(O==0)=o0;generalize(V==[])=vE;generalize xF V 400=vz;generalize(N==[])=nE;generalize uX ⟨a,b⟩=av;generalize(a==0)=a0;generalize(b==0)=b0;by_cases k1:K=1
 ·subst k1;simp only[show((1:Int)==1)=true from rfl,show((1:Int)==2)=false from rfl,show((1:Int)==3)=false from rfl,show((1:Int)==4)=false from rfl,show((1:Int)==5)=false from rfl,show((1:Int)==6)=false from rfl,show((1:Int)==7)=false from rfl,show((1:Int)==8)=false from rfl,show((1:Int)==9)=false from rfl,show((1:Int)==10)=false from rfl,show((1:Int)==11)=false from rfl,show((1:Int)==12)=false from rfl,show((1:Int)==13)=false from rfl,show((1:Int)==14)=false from rfl,show r1=false from h4.symm,show r2=true from pJ.symm,aG,aB,aF,fL,gS];cases nm<;>cases o0<;>cases vE<;>cases F<;>cases a0<;>cases b0<;>cases G<;>cases lE<;>exact⟨_,rfl,rfl⟩
 by_cases k2:K=2
 ·subst k2;simp only[show((2:Int)==1)=false from rfl,show((2:Int)==2)=true from rfl,show((2:Int)==3)=false from rfl,show((2:Int)==4)=false from rfl,show((2:Int)==5)=false from rfl,show((2:Int)==6)=false from rfl,show((2:Int)==7)=false from rfl,show((2:Int)==8)=false from rfl,show((2:Int)==9)=false from rfl,show((2:Int)==10)=false from rfl,show((2:Int)==11)=false from rfl,show((2:Int)==12)=false from rfl,show((2:Int)==13)=false from rfl,show((2:Int)==14)=false from rfl,show r1=false from h4.symm,show r2=true from pJ.symm,aG,aB,aF,fL,gS];cases nm<;>cases o0<;>cases vE<;>cases F<;>cases a0<;>cases b0<;>cases G<;>cases lE<;>exact⟨_,rfl,rfl⟩
 by_cases k3:K=3
 ·subst k3;simp only[show((3:Int)==1)=false from rfl,show((3:Int)==2)=false from rfl,show((3:Int)==3)=true from rfl,show((3:Int)==4)=false from rfl,show((3:Int)==5)=false from rfl,show((3:Int)==6)=false from rfl,show((3:Int)==7)=false from rfl,show((3:Int)==8)=false from rfl,show((3:Int)==9)=false from rfl,show((3:Int)==10)=false from rfl,show((3:Int)==11)=false from rfl,show((3:Int)==12)=false from rfl,show((3:Int)==13)=false from rfl,show((3:Int)==14)=false from rfl,show r1=false from h4.symm,show r2=true from pJ.symm,aG,aB,aF,fL,gS];cases s1<;>cases o0<;>cases o6<;>cases vE<;>cases vz<;>cases F<;>cases a0<;>cases b0<;>cases G<;>cases lE<;>exact⟨_,rfl,rfl⟩
 by_cases k4:K=4
 ·subst k4;simp only[show((4:Int)==1)=false from rfl,show((4:Int)==2)=false from rfl,show((4:Int)==3)=false from rfl,show((4:Int)==4)=true from rfl,show((4:Int)==5)=false from rfl,show((4:Int)==6)=false from rfl,show((4:Int)==7)=false from rfl,show((4:Int)==8)=false from rfl,show((4:Int)==9)=false from rfl,show((4:Int)==10)=false from rfl,show((4:Int)==11)=false from rfl,show((4:Int)==12)=false from rfl,show((4:Int)==13)=false from rfl,show((4:Int)==14)=false from rfl,show r1=true from h4.symm,show r2=true from pJ.symm,aG,aB,aF,fL,gS];cases nE<;>cases o0<;>cases vE<;>cases F<;>cases a0<;>cases b0<;>cases G<;>cases lE<;>exact⟨_,rfl,rfl⟩
 by_cases k5:K=5
 ·subst k5;simp only[show((5:Int)==1)=false from rfl,show((5:Int)==2)=false from rfl,show((5:Int)==3)=false from rfl,show((5:Int)==4)=false from rfl,show((5:Int)==5)=true from rfl,show((5:Int)==6)=false from rfl,show((5:Int)==7)=false from rfl,show((5:Int)==8)=false from rfl,show((5:Int)==9)=false from rfl,show((5:Int)==10)=false from rfl,show((5:Int)==11)=false from rfl,show((5:Int)==12)=false from rfl,show((5:Int)==13)=false from rfl,show((5:Int)==14)=false from rfl,show r1=true from h4.symm,show r2=true from pJ.symm,aG,aB,aF,fL,gS];cases nE<;>cases o0<;>cases vE<;>cases F<;>cases a0<;>cases b0<;>cases G<;>cases lE<;>exact⟨_,rfl,rfl⟩
 by_cases k6:K=6
 ·subst k6;simp only[show((6:Int)==1)=false from rfl,show((6:Int)==2)=false from rfl,show((6:Int)==3)=false from rfl,show((6:Int)==4)=false from rfl,show((6:Int)==5)=false from rfl,show((6:Int)==6)=true from rfl,show((6:Int)==7)=false from rfl,show((6:Int)==8)=false from rfl,show((6:Int)==9)=false from rfl,show((6:Int)==10)=false from rfl,show((6:Int)==11)=false from rfl,show((6:Int)==12)=false from rfl,show((6:Int)==13)=false from rfl,show((6:Int)==14)=false from rfl,show r1=true from h4.symm,show r2=true from pJ.symm,aG,aB,aF,fL,gS];cases nE<;>cases o0<;>cases vE<;>cases F<;>cases a0<;>cases b0<;>cases G<;>cases lE<;>exact⟨_,rfl,rfl⟩
 by_cases k7:K=7
 ·subst k7;simp only[show((7:Int)==1)=false from rfl,show((7:Int)==2)=false from rfl,show((7:Int)==3)=false from rfl,show((7:Int)==4)=false from rfl,show((7:Int)==5)=false from rfl,show((7:Int)==6)=false from rfl,show((7:Int)==7)=true from rfl,show((7:Int)==8)=false from rfl,show((7:Int)==9)=false from rfl,show((7:Int)==10)=false from rfl,show((7:Int)==11)=false from rfl,show((7:Int)==12)=false from rfl,show((7:Int)==13)=false from rfl,show((7:Int)==14)=false from rfl,show r1=true from h4.symm,show r2=true from pJ.symm,aG,aB,aF,fL,gS];cases nE<;>cases o0<;>cases vE<;>cases F<;>cases a0<;>cases b0<;>cases G<;>cases lE<;>exact⟨_,rfl,rfl⟩
 by_cases k8:K=8
 ·subst k8;simp only[show((8:Int)==1)=false from rfl,show((8:Int)==2)=false from rfl,show((8:Int)==3)=false from rfl,show((8:Int)==4)=false from rfl,show((8:Int)==5)=false from rfl,show((8:Int)==6)=false from rfl,show((8:Int)==7)=false from rfl,show((8:Int)==8)=true from rfl,show((8:Int)==9)=false from rfl,show((8:Int)==10)=false from rfl,show((8:Int)==11)=false from rfl,show((8:Int)==12)=false from rfl,show((8:Int)==13)=false from rfl,show((8:Int)==14)=false from rfl,show r1=true from h4.symm,show r2=true from pJ.symm,aG,aB,aF,fL,gS];cases nE<;>cases o0<;>cases vE<;>cases F<;>cases a0<;>cases b0<;>cases G<;>cases lE<;>exact⟨_,rfl,rfl⟩
 by_cases k9:K=9
 ·subst k9;simp only[show((9:Int)==1)=false from rfl,show((9:Int)==2)=false from rfl,show((9:Int)==3)=false from rfl,show((9:Int)==4)=false from rfl,show((9:Int)==5)=false from rfl,show((9:Int)==6)=false from rfl,show((9:Int)==7)=false from rfl,show((9:Int)==8)=false from rfl,show((9:Int)==9)=true from rfl,show((9:Int)==10)=false from rfl,show((9:Int)==11)=false from rfl,show((9:Int)==12)=false from rfl,show((9:Int)==13)=false from rfl,show((9:Int)==14)=false from rfl,show r1=true from h4.symm,show r2=true from pJ.symm,aG,aB,aF,fL,gS];cases nE<;>cases o0<;>cases vE<;>cases F<;>cases av<;>cases G<;>cases lE<;>cases P<;>cases q<;>exact⟨_,rfl,rfl⟩
 by_cases Ek:K=10
 ·subst Ek;simp only[show((10:Int)==1)=false from rfl,show((10:Int)==2)=false from rfl,show((10:Int)==3)=false from rfl,show((10:Int)==4)=false from rfl,show((10:Int)==5)=false from rfl,show((10:Int)==6)=false from rfl,show((10:Int)==7)=false from rfl,show((10:Int)==8)=false from rfl,show((10:Int)==9)=false from rfl,show((10:Int)==10)=true from rfl,show((10:Int)==11)=false from rfl,show((10:Int)==12)=false from rfl,show((10:Int)==13)=false from rfl,show((10:Int)==14)=false from rfl,show r1=true from h4.symm,show r2=true from pJ.symm,aG,aB,aF,fL,gS];cases nE<;>cases o0<;>cases vE<;>cases F<;>cases av<;>cases G<;>cases lE<;>cases P<;>cases q<;>exact⟨_,rfl,rfl⟩
 by_cases k11:K=11
 ·subst k11;simp only[show((11:Int)==1)=false from rfl,show((11:Int)==2)=false from rfl,show((11:Int)==3)=false from rfl,show((11:Int)==4)=false from rfl,show((11:Int)==5)=false from rfl,show((11:Int)==6)=false from rfl,show((11:Int)==7)=false from rfl,show((11:Int)==8)=false from rfl,show((11:Int)==9)=false from rfl,show((11:Int)==10)=false from rfl,show((11:Int)==11)=true from rfl,show((11:Int)==12)=false from rfl,show((11:Int)==13)=false from rfl,show((11:Int)==14)=false from rfl,show r1=true from h4.symm,show r2=true from pJ.symm,aG,aB,aF,fL,gS];cases nE<;>cases o0<;>cases vE<;>cases F<;>cases a0<;>cases b0<;>cases G<;>cases lE<;>cases P<;>cases q<;>exact⟨_,rfl,rfl⟩
 by_cases k12:K=12
 ·subst k12;simp only[show((12:Int)==1)=false from rfl,show((12:Int)==2)=false from rfl,show((12:Int)==3)=false from rfl,show((12:Int)==4)=false from rfl,show((12:Int)==5)=false from rfl,show((12:Int)==6)=false from rfl,show((12:Int)==7)=false from rfl,show((12:Int)==8)=false from rfl,show((12:Int)==9)=false from rfl,show((12:Int)==10)=false from rfl,show((12:Int)==11)=false from rfl,show((12:Int)==12)=true from rfl,show((12:Int)==13)=false from rfl,show((12:Int)==14)=false from rfl,show r1=true from h4.symm,show r2=true from pJ.symm,aG,aB,aF,fL,gS];cases nE<;>cases o0<;>cases vE<;>cases F<;>cases a0<;>cases b0<;>cases G<;>cases lE<;>cases P<;>cases q<;>exact⟨_,rfl,rfl⟩
 by_cases k13:K=13
 ·subst k13;simp only[show((13:Int)==1)=false from rfl,show((13:Int)==2)=false from rfl,show((13:Int)==3)=false from rfl,show((13:Int)==4)=false from rfl,show((13:Int)==5)=false from rfl,show((13:Int)==6)=false from rfl,show((13:Int)==7)=false from rfl,show((13:Int)==8)=false from rfl,show((13:Int)==9)=false from rfl,show((13:Int)==10)=false from rfl,show((13:Int)==11)=false from rfl,show((13:Int)==12)=false from rfl,show((13:Int)==13)=true from rfl,show((13:Int)==14)=false from rfl,show r1=true from h4.symm,show r2=true from pJ.symm,aG,aB,aF,fL,gS];cases nE<;>cases o0<;>cases vE<;>cases F<;>cases a0<;>cases b0<;>cases G<;>cases lE<;>cases P<;>cases q<;>exact⟨_,rfl,rfl⟩
 by_cases k14:K=14
 ·subst k14;simp only[show((14:Int)==1)=false from rfl,show((14:Int)==2)=false from rfl,show((14:Int)==3)=false from rfl,show((14:Int)==4)=false from rfl,show((14:Int)==5)=false from rfl,show((14:Int)==6)=false from rfl,show((14:Int)==7)=false from rfl,show((14:Int)==8)=false from rfl,show((14:Int)==9)=false from rfl,show((14:Int)==10)=false from rfl,show((14:Int)==11)=false from rfl,show((14:Int)==12)=false from rfl,show((14:Int)==13)=false from rfl,show((14:Int)==14)=true from rfl,show r1=true from h4.symm,show r2=true from pJ.symm,aG,aB,aF,fL,gS];cases nE<;>cases o0<;>cases vE<;>cases F<;>cases a0<;>cases b0<;>cases G<;>cases lE<;>cases P<;>cases q<;>exact⟨_,rfl,rfl⟩
 have ek:cond r1 r2 false=false:=by
  rw[←h4,←pJ];show cond (decide (4≤K)) (decide (K≤14)) false=false;by_cases h5:4≤K
  ·rw[cB h5,aB];exact cv (by omega)
  ·rw[cv h5];rfl
 simp only[show(K==1)=false from bM.2 k1,show(K==2)=false from bM.2 k2,show(K==3)=false from bM.2 k3,show(K==4)=false from bM.2 k4,show(K==5)=false from bM.2 k5,show(K==6)=false from bM.2 k6,show(K==7)=false from bM.2 k7,show(K==8)=false from bM.2 k8,show(K==9)=false from bM.2 k9,show(K==10)=false from bM.2 Ek,show(K==11)=false from bM.2 k11,show(K==12)=false from bM.2 k12,show(K==13)=false from bM.2 k13,show(K==14)=false from bM.2 k14,aG,aB,aF,fL,gS];clear h4 pJ;cases r1<;>cases r2<;>first|(cases ek;done)|(cases o0<;>cases vE<;>cases F<;>cases a0<;>cases b0<;>cases G<;>cases lE<;>cases nE<;>exact⟨_,rfl,rfl⟩)
end
section
variable (R1:bo→j7→Bool→Option Bool) (R2:bo→jZ→Bool→Option Bool)
theorem aeZ(x:dU)(d:Int)(h:Bool)(hx:zP x≤1048576)(hr:∀s∈x.aX,∀y∈s.J,∀d h rel,∃q,R1 y ⟨d,h⟩ rel=some q∧R2 y ⟨d,h⟩ rel=some q):
  ∃q,xM FU R1 x ⟨d,h⟩=some q∧Du FU R2 x ⟨d,h⟩=some q:=by
 rw[tE]at hx;have hl:=nS x.aX;have key:∀s∈x.aX,∃q,xI FU R1 s ⟨d,h⟩=some q∧Gz FU R2 s ⟨d,h⟩=some q:=λs hs=>aeY R1 R2 s d h (by have:=mS hs;omega) (hr s hs);have a1:Cb FU R1 x ⟨d,h⟩ FU 0=cond (x.aX.any λs=>!((xI FU R1 s ⟨d,h⟩).getD false)) (some (.inl false)) (some (.inr ())):=
  pd (Cb FU R1 x ⟨d,h⟩) x.aX _ _ _ (by omega) (λkk i hi hm=>by
   obtain⟨q,h1,h2⟩:=key _ hm;rw[Cb,ct hi,aB,bR hi,bG (by omega),h1];rfl) (λkk i hi=>by rw[Cb,cq hi];rfl)
 have a2:Dt FU R2 x ⟨d,h⟩ FU 0=cond (x.aX.any λs=>!((xI FU R1 s ⟨d,h⟩).getD false)) (some (.inl false)) (some (.inr ())):=
  pd (Dt FU R2 x ⟨d,h⟩) x.aX _ _ _ (by omega) (λkk i hi hm=>by
   obtain⟨q,h1,h2⟩:=key _ hm;rw[Dt,ct hi,aB,bR hi,bG (by omega),h2,h1];rfl) (λkk i hi=>by rw[Dt,cq hi];rfl)
 unfold xM Du;simp only[lt_eq];rw[a1,a2,a1v x.Tag (by omega),a1w x.Tag (by omega),VM];generalize(x.aX.any λs=>!((xI FU R1 s ⟨d,h⟩).getD false))=A;generalize HP x.Tag=s1;generalize(x.Tag==[])=t0;generalize(x.Tag==[42])=t1;generalize(ln x.aX==0)=l0;generalize decide (64<ln x.aX)=l6;cases t0<;>cases t1<;>cases s1<;>cases l0<;>cases l6<;>cases A<;>exact⟨_,rfl,rfl⟩
def HQ(n:Int):Bool:=cond (decide (n<1)) true (decide (4<n))
theorem af0(x:bo)(P:jZ)(t:dU→Bool)(ht:∀p∈x.aL,Du FU R2 p P=some (t p))(hc:x.dv.length+1=x.aL.length)(hl:x.aL.length≤1048576):
  ∀(kk i:Nat),x.aL.length-i<kk→i≤x.aL.length→GB FU x P R2 kk (i:Int)=cond ((x.aL.drop i).any (λp=>!(t p))||(x.dv.drop (i-1)).any HQ) (some (.inl false)) (some (.inr ())):=by
 intro kk
 induction kk with
 |zero=>intro i h;omega
 |succ kk ih=>
  intro i h hi;rw[GB];by_cases h1:i<x.aL.length
  ·rw[ct h1,aB,bR h1,ht _ (fY h1),aF,fv h1,List.any_cons,←fh x.aL i h1,bG (by omega),ih (i+1) (by omega) (by omega)];by_cases h0:i=0
   ·subst h0;rw[show decide (0<((0:Nat):Int))=false from rfl,bz (λh=>by cases h),bz (λ_ h=>by cases h),lt_eq];simp only[Nat.zero_add,Nat.sub_self,Nat.zero_sub,du];cases t (gi x.aL ((0:Nat):Int))<;>rfl
   ·have hw:a8 ((i:Int)-1)=((i-1:Nat):Int):=by rw[o5 (by omega) (by omega)];omega
    have MN:i-1<x.dv.length:=by omega
    have hr:0≤((i-1:Nat):Int)∧((i-1:Nat):Int)<ln x.dv:=⟨by omega,by unfold ln;omega⟩;rw[hw,bz (λ_ _=>hr),bz (λ_ _ _=>hr),show decide (0<(i:Int))=true from cB (by omega),lt_eq,fv MN,List.any_cons,←fh x.dv (i-1) MN,show i-1+1=i+1-1 from by omega];show cond (cond (!(t (gi x.aL (i:Int)))) true (cond true (HQ (gi x.dv ((i-1:Nat):Int))) false)) _ _=_;cases t (gi x.aL (i:Int))<;>cases HQ (gi x.dv ((i-1:Nat):Int))<;>simp
  ·rw[cq (by omega),gR (by omega),gR (by omega)];rfl
end
theorem af1:∀(k:Nat)(x:bo)(d:Int)(h rel:Bool),zX x<k→zX x≤1048576→∃q,sT FU k x ⟨d,h⟩ rel=some q∧yw FU k x ⟨d,h⟩ rel=some q:=by
 intro k
 induction k with
 |zero=>intro x d h rel hk;omega
 |succ k ih=>
  intro x d h rel hk hb;rw[qx]at hk hb;have hl:=nP x.aL;have key:∀p∈x.aL,∃q,xM FU (sT FU k) p ⟨d,h⟩=some q∧Du FU (yw FU k) p ⟨d,h⟩=some q:=λp hp=>aeZ _ _ p d h (by have:=mP hp;omega) (λs hs y hy d h rel=>by
   have h1:=mP hp;have h2:=mS hs;have h3:=mX hy;rw[tE]at h1;rw[wY]at h2;exact ih y d h rel (by omega) (by omega))
  have a1:Cc FU x FU 0=cond (x.dv.any HQ) (some (.inl false)) (some (.inr ())):=
   pd (Cc FU x) x.dv HQ _ _ (by omega) (λkk i hi hm=>by rw[Cc,ct hi,aB,bR hi,lt_eq,bG (by omega)];rfl) (λkk i hi=>by rw[Cc,cq hi];rfl)
  have a2:Jc FU (sT FU k) x.aL d h=some (x.aL.any λp=>!((xM FU (sT FU k) p ⟨d,h⟩).getD false)):=by
   unfold Jc Ni;refine Bd (Fg FU (sT FU k) x.aL d h) x.aL _ (by omega) (λkk i hi hm=>?_) (λkk i hi=>by rw[Fg,cq hi];rfl);obtain⟨q,h1,h2⟩:=key _ hm;rw[Fg,ct hi,aB,bR hi,bG (by omega)];unfold Nh;rw[h1];rfl
  rw[sT,yw];simp only[lt_eq];rw[a1,a2,o5 (x:=ln x.dv+1) (by unfold ln;omega) (by unfold ln;omega),o5 (x:=ln x.aL-1) (by unfold ln;omega) (by unfold ln;omega)];have er:(rel==(x.sM !=0))=((x.sM !=0)==rel):=Pf _ _;rw[er];cases(cond (!((x.sM !=0)==rel)) true (decide (4<x.sM)))
  rotate_left
  ·exact⟨false,rfl,rfl⟩
  simp only[aG];by_cases hc:x.dv.length+1=x.aL.length
  ·have e1:(ln x.dv+1 !=ln x.aL)=false:=bne_eq_false_iff_eq.2 (by unfold ln;omega);have e2:(ln x.aL==0)=false:=bM.2 (by unfold ln;omega);have e3:(ln x.dv !=ln x.aL-1)=false:=bne_eq_false_iff_eq.2 (by unfold ln;omega);have a3:=af0 (yw FU k) x ⟨d,h⟩ (λp=>(xM FU (sT FU k) p ⟨d,h⟩).getD false) (λp hp=>by obtain⟨q,h1,h2⟩:=key p hp;rw[h2,h1];rfl) hc (by omega) FU 0 (by unfold FU;omega) (fT _);rw[e1,e2,e3,show GB FU x ⟨d,h⟩ (yw FU k) FU 0=_ from a3];simp only[du,Nat.zero_sub];cases decide (64<ln x.aL)
   ·generalize(x.aL.any λp=>!((xM FU (sT FU k) p ⟨d,h⟩).getD false))=A;cases A<;>cases x.dv.any HQ<;>exact⟨_,rfl,rfl⟩
   ·exact⟨false,rfl,rfl⟩
  ·have e1:(ln x.dv+1 !=ln x.aL)=true:=bne_iff_ne.2 (by unfold ln;omega);rw[e1];refine⟨false,rfl,?_⟩;have e2:cond (cond (ln x.aL==0) true (decide (64<ln x.aL))) true (ln x.dv !=ln x.aL-1)=true:=by
    by_cases h0:x.aL.length=0
    ·rw[show(ln x.aL==0)=true from by rw[beq_iff_eq];unfold ln;omega];rfl
    ·rw[show(ln x.dv !=ln x.aL-1)=true from bne_iff_ne.2 (by unfold ln;omega)];cases(cond (ln x.aL==0) true (decide (64<ln x.aL)))<;>rfl
   rw[e2];rfl
def Bi(x:bo):Bool:=(Jd FU x ⟨0,false⟩ false).getD false
theorem a1H(x:bo)(hb:zX x≤1048576):Jd FU x ⟨0,false⟩ false=some (Bi x)∧TK FU x ⟨0,false⟩ false=some (Bi x):=by
 obtain⟨q,h1,h2⟩:=af1 FU x 0 false false (by unfold FU;omega) hb;unfold Bi;have e:Jd FU x ⟨0,false⟩ false=some q:=h1;rw[e];exact⟨rfl,h2⟩
mutual
def lW:bo→Nat
 | .mk _ p _=>M6 p
def M7:List bo→Nat
 |[]=>0
 |x::r=>lW x+M7 r
def HR:dU→Nat
 | .mk _ s=>M8 s
def M6:List dU→Nat
 |[]=>0
 |x::r=>HR x+M6 r
def xa:dw→Nat
 | .mk _ _ _ _ _ _ _ l=>l.length+M7 l
def M8:List dw→Nat
 |[]=>0
 |x::r=>xa x+M8 r
end
theorem a1I:∀l,M7 l=zL lW l
 |[]=>by rw[M7,zL]
 |v::r=>by rw[M7,zL,a1I r]
theorem a1J:∀l,M6 l=zL HR l
 |[]=>by rw[M6,zL]
 |v::r=>by rw[M6,zL,a1J r]
theorem a1K:∀l,M8 l=zL xa l
 |[]=>by rw[M8,zL]
 |v::r=>by rw[M8,zL,a1K r]
theorem a1L(x:bo):lW x=zL HR x.aL:=by obtain⟨a,b,c⟩:=x;rw[lW,a1J];rfl
theorem a1M(x:dU):HR x=zL xa x.aX:=by obtain⟨a,b⟩:=x;rw[HR,a1K];rfl
theorem VN(x:dw):xa x=x.J.length+zL lW x.J:=by obtain⟨a,b,c,d,e,f,g,h⟩:=x;rw[xa,a1I];rfl
theorem a1N(n:Nat):∀l:List bo,gH l≤n→l.length+zL lW l≤gH l:=by
 induction n using Nat.strongRecOn with
 |_ n ih=>
  intro l h;have key:zL (λx=>1+lW x) l≤zL zX l:=Ei λx hx=>by
   have h1:=mX hx;rw[qx]at h1⊢;rw[a1L];have h2:zL HR x.aL≤zL zP x.aL:=Ei λp hp=>by
    have h3:=mP hp;rw[tE]at h3⊢;rw[a1M];have h4:zL xa p.aX≤zL zS p.aX:=Ei λs hs=>by
     have h5:=mS hs;rw[wY]at h5⊢;rw[VN];have:=ih (gH s.J) (by omega) s.J (dz _);omega
    rw[PB];omega
   rw[PA];omega
  have e:zL (λx=>1+lW x) l=l.length+zL lW l:=by
   clear key h ih
   induction l with
   |nil=>rfl
   |cons y l ih=>rw[zL,zL,ih,cN];omega
  rw[Pz];omega
theorem a1O(F1:Nat→Int→Int→Option Int)(F2:Nat→Nat→Int→Int→Option Int)(F3:Nat→Nat→Nat→Int→Int→Option Int)(l:List bo)(g:dw→Nat)(hb:gH l≤1048576)
  (h1:∀kk i a:Nat,i<l.length→gi l (i:Int)∈l→F1 (kk+1) (a:Int) (i:Int)=Option.bind (F2 i FU (a:Int) 0) λz=>F1 kk z ((i+1:Nat):Int))(e1:∀kk i a:Nat,l.length≤i→F1 (kk+1) (a:Int) (i:Int)=some (a:Int))
  (h2:∀i:Nat,i<l.length→gi l (i:Int)∈l→∀kk j a:Nat,j<(gi l (i:Int)).aL.length→gi (gi l (i:Int)).aL (j:Int)∈(gi l (i:Int)).aL→F2 i (kk+1) (a:Int) (j:Int)=Option.bind (F3 i j FU (a:Int) 0) λz=>F2 i kk z ((j+1:Nat):Int))
  (e2:∀i:Nat,i<l.length→∀kk j a:Nat,(gi l (i:Int)).aL.length≤j→F2 i (kk+1) (a:Int) (j:Int)=some (a:Int))
  (h3:∀i j:Nat,i<l.length→gi l (i:Int)∈l→j<(gi l (i:Int)).aL.length→gi (gi l (i:Int)).aL (j:Int)∈(gi l (i:Int)).aL→∀kk q a:Nat,q<(gi (gi l (i:Int)).aL (j:Int)).aX.length→gi (gi (gi l (i:Int)).aL (j:Int)).aX (q:Int)∈(gi (gi l (i:Int)).aL (j:Int)).aX→
   a+g (gi (gi (gi l (i:Int)).aL (j:Int)).aX (q:Int))≤1048576→F3 i j (kk+1) (a:Int) (q:Int)=F3 i j kk ((a+g (gi (gi (gi l (i:Int)).aL (j:Int)).aX (q:Int)):Nat):Int) ((q+1:Nat):Int))
  (e3:∀i j:Nat,i<l.length→j<(gi l (i:Int)).aL.length→∀kk q a:Nat,(gi (gi l (i:Int)).aL (j:Int)).aX.length≤q→F3 i j (kk+1) (a:Int) (q:Int)=some (a:Int))
  (a:Nat)(ha:a+zL (λx:bo=>zL (λp:dU=>zL g p.aX) x.aL) l≤1048576):F1 FU (a:Int) 0=some ((a+zL (λx:bo=>zL (λp:dU=>zL g p.aX) x.aL) l:Nat):Int):=by
 have hl:=nX l;have key:∀i:Nat,i<l.length→∀a:Nat,a+zL (λp:dU=>zL g p.aX) (gi l (i:Int)).aL≤1048576→F2 i FU (a:Int) 0=some ((a+zL (λp:dU=>zL g p.aX) (gi l (i:Int)).aL:Nat):Int):=λi hi a ha=>by
  have hm:=fY hi;have hx:=mX hm;rw[qx]at hx;have hp:=nP (gi l (i:Int)).aL;have:=PC (F2 i) (gi l (i:Int)).aL (λp:dU=>zL g p.aX) (by omega) (λkk j a hj kQ haj=>by
   have hy:=mP kQ;rw[tE]at hy;have hs:=nS (gi (gi l (i:Int)).aL (j:Int)).aX;rw[h2 i hi hm kk j a hj kQ];have hd:zL (λp:dU=>zL g p.aX) ((gi l (i:Int)).aL.drop j)=zL g (gi (gi l (i:Int)).aL (j:Int)).aX+zL (λp:dU=>zL g p.aX) ((gi l (i:Int)).aL.drop (j+1)):=by rw[fv hj,zL,←fh _ j hj]
   have:=PC (F3 i j) (gi (gi l (i:Int)).aL (j:Int)).aX g (by omega) (λkk q a hq vg haq=>h3 i j hi hm hj kQ kk q a hq vg (by
    have:zL g ((gi (gi l (i:Int)).aL (j:Int)).aX.drop q)=g (gi (gi (gi l (i:Int)).aL (j:Int)).aX (q:Int))+zL g ((gi (gi l (i:Int)).aL (j:Int)).aX.drop (q+1)):=by rw[fv hq,zL,←fh _ q hq]
    omega)) (λkk q a hq=>e3 i j hi hj kk q a hq) FU 0 a (by unfold FU;omega) (by rw[du];omega)
   rw[du]at this;rw[show F3 i j FU (a:Int) 0=_ from this,aF]) (λkk j a hj=>e2 i hi kk j a hj) FU 0 a (by unfold FU;omega) (by rw[du];exact ha)
  rw[du]at this;exact this
 have:=PC F1 l (λx:bo=>zL (λp:dU=>zL g p.aX) x.aL) (by omega) (λkk i a hi hm hai=>by
  have hd:zL (λx:bo=>zL (λp:dU=>zL g p.aX) x.aL) (l.drop i)=zL (λp:dU=>zL g p.aX) (gi l (i:Int)).aL+zL (λx:bo=>zL (λp:dU=>zL g p.aX) x.aL) (l.drop (i+1)):=by rw[fv hi,zL,←fh _ i hi]
  rw[h1 kk i a hi hm,key i hi a (by omega),aF]) (λkk i a hi=>e1 kk i a hi) FU 0 a (by unfold FU;omega) (by rw[du];exact ha)
 rw[du]at this;exact this
theorem PJ(l:List bo):zL (λx:bo=>zL (λp:dU=>zL xa p.aX) x.aL) l=zL lW l:=by
 have e:(λx:bo=>zL (λp:dU=>zL xa p.aX) x.aL)=lW:=funext λx=>by
  rw[a1L];congr 1;exact funext λp=>(a1M p).symm
 rw[e]
theorem af2:∀(k:Nat)(l:List bo),gH l<k→gH l≤1048576→rY FU k l=some ((l.length+zL lW l:Nat):Int):=by
 intro k
 induction k with
 |zero=>intro l h;omega
 |succ k ih=>
  intro l hk hb;have hle:=a1N (gH l) l (dz _);rw[rY,show ln l=((l.length:Nat):Int)from rfl,a1O (Fi FU l (rY FU k)) (λi=>zJ FU l (i:Int) (rY FU k)) (λi j=>zH FU l (i:Int) (j:Int) (rY FU k)) l xa hb
   (λkk i a hi hm=>by rw[Fi,ct hi,aB,bR hi,bG (by have:=nX l;omega)]) (λkk i a hi=>by rw[Fi,cq hi];rfl)
   (λi hi hm kk j a hj kQ=>by
    have hx:=mX hm;rw[qx]at hx;have hp:=nP (gi l (i:Int)).aL;show zJ FU l (i:Int) (rY FU k) (kk+1) (a:Int) (j:Int)=_;rw[zJ,ct hj,aB,bR hj,bG (by omega)])
   (λi hi kk j a hj=>by show zJ FU l (i:Int) (rY FU k) (kk+1) (a:Int) (j:Int)=_;rw[zJ,cq hj];rfl)
   (λi j hi hm hj kQ kk q a hq vg ha=>by
    have hx:=mX hm;rw[qx]at hx;have hy:=mP kQ;rw[tE]at hy;have hz:=mS vg;rw[wY]at hz;have hn:=nS (gi (gi l (i:Int)).aL (j:Int)).aX;show zH FU l (i:Int) (j:Int) (rY FU k) (kk+1) (a:Int) (q:Int)=_;rw[zH];simp only[lt_eq];rw[ct hq,aB,bR hq,ih _ (by omega) (by omega),aF,bG (by omega),←VN,HO _ _ (by omega)])
   (λi j hi hj kk q a hq=>by show zH FU l (i:Int) (j:Int) (rY FU k) (kk+1) (a:Int) (q:Int)=_;rw[zH];simp only[lt_eq];rw[cq hq];rfl) l.length (by rw[PJ];omega),PJ]
  rfl
theorem af3:∀(k:Nat)(l:List bo),gH l<k→gH l≤1048576→ss FU k l=some ((l.length+zL lW l:Nat):Int):=by
 intro k
 induction k with
 |zero=>intro l h;omega
 |succ k ih=>
  intro l hk hb;have hle:=a1N (gH l) l (dz _);rw[ss,show ln l=((l.length:Nat):Int)from rfl,a1O (GC FU l (ss FU k)) (λi=>AB FU l (i:Int) (ss FU k)) (λi j=>Az FU l (i:Int) (j:Int) (ss FU k)) l xa hb
   (λkk i a hi hm=>by rw[GC,ct hi,aB,bG (by have:=nX l;omega)]) (λkk i a hi=>by rw[GC,cq hi];rfl)
   (λi hi hm kk j a hj kQ=>by
    have hx:=mX hm;rw[qx]at hx;have hp:=nP (gi l (i:Int)).aL;show AB FU l (i:Int) (ss FU k) (kk+1) (a:Int) (j:Int)=_;rw[AB,bR hi,ct hj,aB,bR hj,bG (by omega)])
   (λi hi kk j a hj=>by show AB FU l (i:Int) (ss FU k) (kk+1) (a:Int) (j:Int)=_;rw[AB,bR hi,cq hj];rfl)
   (λi j hi hm hj kQ kk q a hq vg ha=>by
    have hx:=mX hm;rw[qx]at hx;have hy:=mP kQ;rw[tE]at hy;have hz:=mS vg;rw[wY]at hz;have hn:=nS (gi (gi l (i:Int)).aL (j:Int)).aX;show Az FU l (i:Int) (j:Int) (ss FU k) (kk+1) (a:Int) (q:Int)=_;rw[Az];simp only[lt_eq];rw[ct hq,aB,bR hq,ih _ (by omega) (by omega),aF,bG (by omega),←VN,HO _ _ (by omega)])
   (λi j hi hj kk q a hq=>by show Az FU l (i:Int) (j:Int) (ss FU k) (kk+1) (a:Int) (q:Int)=_;rw[Az];simp only[lt_eq];rw[cq hq];rfl) l.length (by rw[PJ];omega),PJ]
  rfl
def Bj(l:List bo):Bool:=(ln l==0)||(l.any (λx=>!(Bi x))||decide (64<l.length+zL lW l))
theorem Ij(l:List bo)(hb:gH l≤1048576):∃e,Fk FU l=some e∧(e !=0)=Bj l:=by
 have hl:=nX l;have a1:Je FU l=some (l.any λx=>!(Bi x)):=by
  unfold Je Nk;refine Bd (Fh FU l) l _ (by omega) (λkk i hi hm=>?_) (λkk i hi=>by rw[Fh,cq hi];rfl);have:=mX hm;rw[Fh,ct hi,aB,bR hi,bG (by omega)];unfold Nj;rw[(a1H _ (by omega)).1];rfl
 unfold Fk Bj;rw[a1,show RU FU l=_ from af2 FU l (by unfold FU;omega) hb];have e:decide ((64:Int)<((l.length+zL lW l:Nat):Int))=decide (64<l.length+zL lW l):=by
  by_cases h:64<l.length+zL lW l
  ·rw[cB h,cB (by omega)]
  ·rw[cv h,cv (by omega)]
 simp only[aF];rw[e];cases(ln l==0)<;>cases(l.any λx=>!(Bi x))<;>cases decide (64<l.length+zL lW l)<;>exact⟨_,rfl,rfl⟩
theorem af4(l:List bo)(hb:gH l≤1048576):∃e,KJ FU l=some e∧(e !=0)=Bj l:=by
 have hl:=nX l;have a1:Dv FU l FU 0=cond (l.any λx=>!(Bi x)) (some (.inl false)) (some (.inr ())):=
  pd (Dv FU l) l _ _ _ (by omega) (λkk i hi hm=>by
   have:=mX hm;rw[Dv,ct hi,aB,bR hi,bG (by omega),(a1H _ (by omega)).2];rfl) (λkk i hi=>by rw[Dv,cq hi];rfl)
 unfold KJ OD Bj;rw[a1,VM,show TL FU l=_ from af3 FU l (by unfold FU;omega) hb];have e:decide ((64:Int)<((l.length+zL lW l:Nat):Int))=decide (64<l.length+zL lW l):=by
  by_cases h:64<l.length+zL lW l
  ·rw[cB h,cB (by omega)]
  ·rw[cv h,cv (by omega)]
 simp only[aF];rw[e];cases(ln l==0)<;>cases(l.any λx=>!(Bi x))<;>cases decide (64<l.length+zL lW l)<;>exact⟨_,rfl,rfl⟩
def Em(s:dw):Bool:=cond (s.a7==3) true (cond (decide (9≤s.a7)) (!(L3 s)) false)
mutual
def nU:bo→Nat
 | .mk _ p _=>M9 p
def Ma:List bo→Nat
 |[]=>0
 |x::r=>max (nU x) (Ma r)
def Mb:dU→Nat
 | .mk _ s=>Mc s
def M9:List dU→Nat
 |[]=>0
 |x::r=>max (Mb x) (M9 r)
def yM:dw→Nat
 | .mk K N O V F A G l=>cond (Em (.mk K N O V F A G l)) (1+Ma l) 0
def Mc:List dw→Nat
 |[]=>0
 |x::r=>max (yM x) (Mc r)
end
theorem a1P:∀l,Ma l=mL nU l
 |[]=>by rw[Ma,mL]
 |v::r=>by rw[Ma,mL,a1P r]
theorem a1Q:∀l,M9 l=mL Mb l
 |[]=>by rw[M9,mL]
 |v::r=>by rw[M9,mL,a1Q r]
theorem a1R:∀l,Mc l=mL yM l
 |[]=>by rw[Mc,mL]
 |v::r=>by rw[Mc,mL,a1R r]
theorem a1S(x:bo):nU x=mL Mb x.aL:=by obtain⟨a,b,c⟩:=x;rw[nU,a1Q];rfl
theorem a1T(x:dU):Mb x=mL yM x.aX:=by obtain⟨a,b⟩:=x;rw[Mb,a1R];rfl
theorem VO(x:dw):yM x=cond (Em x) (1+mL nU x.J) 0:=by obtain⟨a,b,c,d,e,f,g,h⟩:=x;rw[yM,a1P];rfl
theorem VP(n:Nat):∀l:List bo,gH l≤n→mL nU l≤gH l:=by
 induction n using Nat.strongRecOn with
 |_ n ih=>
  intro l h;refine qy λx hx=>?_;have h1:=mX hx;rw[qx]at h1;rw[a1S];refine qy λp hp=>?_;have h2:=mP hp;rw[tE]at h2;rw[a1T];refine qy λs hs=>?_;have h3:=mS hs;rw[wY]at h3;rw[VO];have:=ih (gH s.J) (by omega) s.J (dz _);cases Em s
  ·exact fT _
  ·rw[aB];omega
theorem a1U(F1:Nat→Int→Int→Option Int)(F2:Nat→Nat→Int→Int→Option Int)(F3:Nat→Nat→Nat→Int→Int→Option Int)(l:List bo)(g:dw→Nat)(hb:gH l≤1048576)
  (h1:∀kk i a:Nat,i<l.length→gi l (i:Int)∈l→F1 (kk+1) (a:Int) (i:Int)=Option.bind (F2 i FU (a:Int) 0) λz=>F1 kk z ((i+1:Nat):Int))(e1:∀kk i a:Nat,l.length≤i→F1 (kk+1) (a:Int) (i:Int)=some (a:Int))
  (h2:∀i:Nat,i<l.length→gi l (i:Int)∈l→∀kk j a:Nat,j<(gi l (i:Int)).aL.length→gi (gi l (i:Int)).aL (j:Int)∈(gi l (i:Int)).aL→F2 i (kk+1) (a:Int) (j:Int)=Option.bind (F3 i j FU (a:Int) 0) λz=>F2 i kk z ((j+1:Nat):Int))
  (e2:∀i:Nat,i<l.length→∀kk j a:Nat,(gi l (i:Int)).aL.length≤j→F2 i (kk+1) (a:Int) (j:Int)=some (a:Int))
  (h3:∀i j:Nat,i<l.length→gi l (i:Int)∈l→j<(gi l (i:Int)).aL.length→gi (gi l (i:Int)).aL (j:Int)∈(gi l (i:Int)).aL→∀kk q a:Nat,q<(gi (gi l (i:Int)).aL (j:Int)).aX.length→gi (gi (gi l (i:Int)).aL (j:Int)).aX (q:Int)∈(gi (gi l (i:Int)).aL (j:Int)).aX→
   F3 i j (kk+1) (a:Int) (q:Int)=F3 i j kk ((max a (g (gi (gi (gi l (i:Int)).aL (j:Int)).aX (q:Int))):Nat):Int) ((q+1:Nat):Int))
  (e3:∀i j:Nat,i<l.length→j<(gi l (i:Int)).aL.length→∀kk q a:Nat,(gi (gi l (i:Int)).aL (j:Int)).aX.length≤q→F3 i j (kk+1) (a:Int) (q:Int)=some (a:Int))
  (a:Nat):F1 FU (a:Int) 0=some ((max a (mL (λx:bo=>mL (λp:dU=>mL g p.aX) x.aL) l):Nat):Int):=by
 have hl:=nX l;have:=Be F1 l (λx:bo=>mL (λp:dU=>mL g p.aX) x.aL) (by omega) (λkk i a hi hm=>by
  have hx:=mX hm;rw[qx]at hx;have hp:=nP (gi l (i:Int)).aL;have:=Be (F2 i) (gi l (i:Int)).aL (λp:dU=>mL g p.aX) (by omega) (λkk j a hj kQ=>by
   have hy:=mP kQ;rw[tE]at hy;have hs:=nS (gi (gi l (i:Int)).aL (j:Int)).aX;have:=Be (F3 i j) (gi (gi l (i:Int)).aL (j:Int)).aX g (by omega) (λkk q a hq vg=>h3 i j hi hm hj kQ kk q a hq vg) (λkk q a hq=>e3 i j hi hj kk q a hq) FU 0 a (by unfold FU;omega);rw[du]at this;rw[h2 i hi hm kk j a hj kQ,show F3 i j FU (a:Int) 0=_ from this,aF]) (λkk j a hj=>e2 i hi kk j a hj) FU 0 a (by unfold FU;omega)
  rw[du]at this;rw[h1 kk i a hi hm,show F2 i FU (a:Int) 0=_ from this,aF]) (λkk i a hi=>e1 kk i a hi) FU 0 a (by unfold FU;omega)
 rw[du]at this;exact this
theorem a1V(l:List bo):mL (λx:bo=>mL (λp:dU=>mL yM p.aX) x.aL) l=mL nU l:=by
 have e:(λx:bo=>mL (λp:dU=>mL yM p.aX) x.aL)=nU:=funext λx=>by
  rw[a1S];congr 1;exact funext λp=>(a1T p).symm
 rw[e]
theorem af5:∀(k:Nat)(l:List bo),gH l<k→gH l≤1048576→qY FU k l=some ((mL nU l:Nat):Int):=by
 intro k
 induction k with
 |zero=>intro l h;omega
 |succ k ih=>
  intro l hk hb;rw[qY,show(0:Int)=((0:Nat):Int)from rfl,show C5 FU l (qY FU k) FU ((0:Nat):Int) ((0:Nat):Int)=_ from a1U (C5 FU l (qY FU k)) (λi=>zB FU l (i:Int) (qY FU k)) (λi j=>zx FU l (i:Int) (j:Int) (qY FU k)) l yM hb
   (λkk i a hi hm=>by rw[C5,ct hi,aB,bR hi,bG (by have:=nX l;omega)]) (λkk i a hi=>by rw[C5,cq hi];rfl)
   (λi hi hm kk j a hj kQ=>by
    have hx:=mX hm;rw[qx]at hx;have hp:=nP (gi l (i:Int)).aL;show zB FU l (i:Int) (qY FU k) (kk+1) (a:Int) (j:Int)=_;rw[zB,ct hj,aB,bR hj,bG (by omega)])
   (λi hi kk j a hj=>by show zB FU l (i:Int) (qY FU k) (kk+1) (a:Int) (j:Int)=_;rw[zB,cq hj];rfl)
   (λi j hi hm hj kQ kk q a hq vg=>by
    have hx:=mX hm;rw[qx]at hx;have hy:=mP kQ;rw[tE]at hy;have hz:=mS vg;rw[wY]at hz;have hn:=nS (gi (gi l (i:Int)).aL (j:Int)).aX;have hd:=VP _ (gi (gi (gi l (i:Int)).aL (j:Int)).aX (q:Int)).J (dz _);show zx FU l (i:Int) (j:Int) (qY FU k) (kk+1) (a:Int) (q:Int)=_;rw[zx,lt_eq,ct hq,aB,bR hq];simp only[lt_eq];rw[ih _ (by omega) (by omega),aF,bG (by omega),tF,bG (by omega),VO];show Option.bind (cond (Em (gi (gi (gi l (i:Int)).aL (j:Int)).aX (q:Int))) _ _) _=_;cases Em (gi (gi (gi l (i:Int)).aL (j:Int)).aX (q:Int))
    ·rw[aG,aG,Nat.max_zero];rfl
    ·rw[aB,aB,Nat.add_comm];rfl)
   (λi j hi hj kk q a hq=>by show zx FU l (i:Int) (j:Int) (qY FU k) (kk+1) (a:Int) (q:Int)=_;rw[zx];simp only[lt_eq];rw[cq hq];rfl) 0,a1V,Nat.zero_max]
  rfl
theorem af6:∀(k:Nat)(l:List bo),gH l<k→gH l≤1048576→rr FU k l=some ((mL nU l:Nat):Int):=by
 intro k
 induction k with
 |zero=>intro l h;omega
 |succ k ih=>
  intro l hk hb;rw[rr,show(0:Int)=((0:Nat):Int)from rfl,show DQ FU l (rr FU k) FU ((0:Nat):Int) ((0:Nat):Int)=_ from a1U (DQ FU l (rr FU k)) (λi=>AR FU l (i:Int) (rr FU k)) (λi j=>AP FU l (i:Int) (j:Int) (rr FU k)) l yM hb
   (λkk i a hi hm=>by rw[DQ,ct hi,aB,bG (by have:=nX l;omega)]) (λkk i a hi=>by rw[DQ,cq hi];rfl)
   (λi hi hm kk j a hj kQ=>by
    have hx:=mX hm;rw[qx]at hx;have hp:=nP (gi l (i:Int)).aL;show AR FU l (i:Int) (rr FU k) (kk+1) (a:Int) (j:Int)=_;rw[AR,bR hi,ct hj,aB,bR hj,bG (by omega)])
   (λi hi kk j a hj=>by show AR FU l (i:Int) (rr FU k) (kk+1) (a:Int) (j:Int)=_;rw[AR,bR hi,cq hj];rfl)
   (λi j hi hm hj kQ kk q a hq vg=>by
    have hx:=mX hm;rw[qx]at hx;have hy:=mP kQ;rw[tE]at hy;have hz:=mS vg;rw[wY]at hz;have hn:=nS (gi (gi l (i:Int)).aL (j:Int)).aX;have hd:=VP _ (gi (gi (gi l (i:Int)).aL (j:Int)).aX (q:Int)).J (dz _);show AP FU l (i:Int) (j:Int) (rr FU k) (kk+1) (a:Int) (q:Int)=_;rw[AP,lt_eq,ct hq,aB,bR hq];simp only[lt_eq];rw[ih _ (by omega) (by omega),aF,bG (by omega),PD _ (by omega),tF,VO];show Option.bind (cond (Em (gi (gi (gi l (i:Int)).aL (j:Int)).aX (q:Int))) _ _) _=_;cases Em (gi (gi (gi l (i:Int)).aL (j:Int)).aX (q:Int))
    ·rw[aG,aG,Nat.max_zero];rfl
    ·rw[aB,aB];rfl)
   (λi j hi hj kk q a hq=>by show AP FU l (i:Int) (j:Int) (rr FU k) (kk+1) (a:Int) (q:Int)=_;rw[AP];simp only[lt_eq];rw[cq hq];rfl) 0,a1V,Nat.zero_max]
  rfl
theorem Md(c:aP):l7 c=dq c:=by
 unfold l7 dq nM;simp only[lt_eq];cases(c.aO==[])<;>cases(c.bj==0)<;>cases(c.aA.aO==[])<;>cases(ln c.aA.Value==0)<;>rfl
def nV(c:aP):Bool:=cond (c.a7==0) (cond (dq c) (ln c.J==0) false) false
theorem af7(c:aP):oR c=nV c:=by
 unfold oR nV dq nM;simp only[lt_eq];cases(c.a7==0)<;>cases(c.aO==[])<;>cases(c.bj==0)<;>cases(c.aA.aO==[])<;>cases(ln c.aA.Value==0)<;>cases c.aA.js<;>cases(ln c.J==0)<;>rfl
theorem sE{α:Type}(l:List α):(ln l==0)=decide (l.length=0):=by
 cases l with
 |nil=>rfl
 |cons y r=>rw[cv (by rw[cN];omega)];exact bM.2 (by unfold ln;rw[cN];omega)
theorem af8(v:List aj):TM FU v []=some (ln v==0):=by
 show Dw FU (1099999+1) v []=_;rw[Dw];cases h:(ln v==0)
 ·rw[show(ln v !=ln ([]:List aj))=!(ln v==0)from rfl,h];rfl
 ·rw[show(ln v !=ln ([]:List aj))=!(ln v==0)from rfl,h,fL,aG];show Option.bind (KK FU v [] (Dw FU 1099999) (1099999+1) ((0:Nat):Int)) _=_;rw[KK,cq (by rw[sE]at h;have:=jH h;omega)];rfl
theorem af9(c:aP):Dx FU c=some (nV c):=by
 unfold Dx;show Option.bind (AD FU (1099999+1) c (aP.mk 0 [] 0 (cy.mk [] [] false) [])) _=_;rw[AD];unfold OE nV dq nM;simp only[lt_eq];rw[show(aP.mk 0 [] 0 (cy.mk [] [] false) []).aA.Value=[]from rfl,af8];rw[show(aP.mk 0 [] 0 (cy.mk [] [] false) []).a7=0 from rfl,show(aP.mk 0 [] 0 (cy.mk [] [] false) []).aO=[]from rfl,show(aP.mk 0 [] 0 (cy.mk [] [] false) []).bj=0 from rfl,
  show(aP.mk 0 [] 0 (cy.mk [] [] false) []).aA.aO=[]from rfl,show(aP.mk 0 [] 0 (cy.mk [] [] false) []).aA.js=false from rfl,show(aP.mk 0 [] 0 (cy.mk [] [] false) []).J=[]from rfl]
 rw[show(c.a7 !=0)=!(c.a7==0)from rfl,show(c.bj !=0)=!(c.bj==0)from rfl,show(ln c.J !=ln ([]:List aP))=!(ln c.J==0)from rfl];rw[show(c.aA.js==false)=!c.aA.js from by cases c.aA.js<;>rfl];cases hl:(ln c.J==0)
 ·cases(c.a7==0)<;>cases(c.aO==[])<;>cases(c.bj==0)<;>cases(c.aA.aO==[])<;>cases c.aA.js<;>cases(ln c.aA.Value==0)<;>rfl
 ·have e:GD FU c (aP.mk 0 [] 0 (cy.mk [] [] false) []) (AD FU 1099999) FU 0=some (.inr ()):=by
   show GD FU c (aP.mk 0 [] 0 (cy.mk [] [] false) []) (AD FU 1099999) (1099999+1) ((0:Nat):Int)=_;rw[GD,cq (by rw[sE]at hl;have:=jH hl;omega)];rfl
  rw[e];cases(c.a7==0)<;>cases(c.aO==[])<;>cases(c.bj==0)<;>cases(c.aA.aO==[])<;>cases c.aA.js<;>cases(ln c.aA.Value==0)<;>rfl
theorem afa(s:ag)(hs:s.length≤1048576):JA FU s=some (Ej s):=by
 have hc:sY 64 ([[],[97,110,100],[111,114],[110,111,116],[111,110,108,121]]:List ag) s=some (cond (s==[]) true (cond (s==[97,110,100]) true (cond (s==[111,114]) true (cond (s==[110,111,116]) true (s==[111,110,108,121]))))):=by
  rw[LL _ s (by decide)];simp only[cN,dn,lU];rw[show gi ([[],[97,110,100],[111,114],[110,111,116],[111,110,108,121]]:List ag) ((0:Nat):Int)=[]from rfl,show gi ([[],[97,110,100],[111,114],[110,111,116],[111,110,108,121]]:List ag) ((0+1:Nat):Int)=[97,110,100]from rfl,show gi ([[],[97,110,100],[111,114],[110,111,116],[111,110,108,121]]:List ag) ((0+1+1:Nat):Int)=[111,114]from rfl,show gi ([[],[97,110,100],[111,114],[110,111,116],[111,110,108,121]]:List ag) ((0+1+1+1:Nat):Int)=[110,111,116]from rfl,show gi ([[],[97,110,100],[111,114],[110,111,116],[111,110,108,121]]:List ag) ((0+1+1+1+1:Nat):Int)=[111,110,108,121]from rfl];cases(s==[])<;>cases(s==[97,110,100])<;>cases(s==[111,114])<;>cases(s==[110,111,116])<;>cases(s==[111,110,108,121])<;>rfl
 have e64:decide (ln s≤64)=!(decide (64<ln s)):=by
  by_cases h:64<ln s
  ·rw[cB h,cv (by omega)];rfl
  ·rw[cv h,cB (by omega)];rfl
 have ew:(s==lw s)=(lw s==s):=by
  by_cases h:s=lw s
  ·rw[beq_iff_eq.2 h,beq_iff_eq.2 h.symm]
  ·rw[bM.2 h,bM.2 (Ne.symm h)]
 unfold JA Ej;rw[hc,M0 s hs,a1r,e64,ew];simp only[lt_eq,aF];cases(s==[])<;>cases(s==[97,110,100])<;>cases(s==[111,114])<;>cases(s==[110,111,116])<;>cases(s==[111,110,108,121])<;>cases decide (64<ln s)<;>simp only[aB,aG,fL,gS,aF]<;>cases(lw s==s)<;>cases zb s<;>rfl
theorem afb(n:Int):JB FU n=some (cond (yB n) 0 8):=by
 unfold JB NA yB;have a:Cx FU [n] FU 0=cond ([n].any λx=>cond (decide (x<(-1000000000000))) true (decide (1000000000000<x))) (some (.inl 8)) (some (.inr ())):=
  pd (Cx FU [n]) [n] _ _ _ (Nat.le_of_ble_eq_true rfl) (λkk i hi hm=>by rw[Cx,ct hi,aB,bR hi,bG (by have:i<1:=hi;omega)];rfl) (λkk i hi=>by rw[Cx,cq hi];rfl)
 rw[a];simp only[lt_eq,List.any_cons,List.any_nil,Bool.or_false];by_cases h1:n< -1000000000000
 ·rw[cB h1,cv (show¬(-1000000000000≤n) by omega)];rfl
 ·rw[cv h1,cB (show-1000000000000≤n by omega)];by_cases h2:1000000000000<n
  ·rw[cB h2,cv (show¬(n≤1000000000000) by omega)];rfl
  ·rw[cv h2,cB (show n≤1000000000000 by omega)];rfl
def rC(b:Bool)(s:aP):Bool:=cond (decide (0<ln s.J)) false (cond (nM s.aA)
 (cond (s.a7==4) (cond b (cond (s.bj==0) (Ej s.aO) false) false)
  (cond (cond (s.a7==5) true (s.a7==6)) (cond (s.aO==[]) (cond (decide (s.bj<0)) false (yB s.bj)) false) false)) false)
def yN(l:List aP):Bool:=match l with
 |[]=>true
 |v::r=>rC true v&&r.all (rC false)
def ov(c:aP):Bool:=cond (c.a7==1) (cond (dq c) (cond (ln c.J==0) false (yN c.J)) false) false
theorem afc(s:aP):l7 (aP.mk s.a7 [] 0 s.aA s.J)=nM s.aA:=by
 rw[Md];unfold dq nM;simp only[lt_eq];rfl
theorem a1W{ρ:Type}(F:Nat→Int→Option ρ)(l:List aP)(hit lV:Option ρ)(hl:l.length≤1048576)
  (hF:∀(kk i:Nat),i<l.length→gi l (i:Int)∈l→F (kk+1) (i:Int)=cond (rC (((i:Nat):Int)==0) (gi l (i:Int))) (F kk ((i+1:Nat):Int)) hit)(hE:∀kk (i:Nat),l.length≤i→F (kk+1) (i:Int)=lV):
  F FU 0=cond (yN l) lV hit:=by
 have H:∀(kk i:Nat),l.length-i<kk→0<i→F kk (i:Int)=cond ((l.drop i).all (rC false)) lV hit:=by
  intro kk
  induction kk with
  |zero=>intro i h;omega
  |succ kk ih=>
   intro i h hp;by_cases h1:i<l.length
   ·rw[hF kk i h1 (fY h1),ih (i+1) (by omega) (by omega),fv h1,List.all_cons,←fh l i h1,show(((i:Nat):Int)==0)=false from bM.2 (by omega)];cases rC false (gi l (i:Int))<;>rfl
   ·rw[hE kk i (by omega),gR (by omega)];rfl
 show F (1099999+1) ((0:Nat):Int)=_;cases l with
 |nil=>rw[hE _ 0 (by exact dz _)];rfl
 |cons v r=>
  rw[hF _ 0 (by rw[cN];omega) (fY (by rw[cN];omega)),H 1099999 (0+1) (by rw[cN]at hl⊢;omega) (by omega)];show cond (rC true v) (cond (r.all (rC false)) lV hit) hit=cond (rC true v&&r.all (rC false)) lV hit;cases rC true v<;>rfl
theorem a1X(c:aP)(hb:zC c≤1048576):Fy FU c=some (ov c):=by
 rw[jA]at hb;have hl:=nC c.J;have a:Cy FU c FU 0=cond (yN c.J) (some (.inr ())) (some (.inl false)):=
  a1W (Cy FU c) c.J (some (.inl false)) (some (.inr ())) (by omega) (λkk i hi hm=>by
   have hz:=mC hm;rw[jA]at hz;have hp:decide (0<((i:Nat):Int))=!(((i:Nat):Int)==0):=by
    by_cases h:i=0
    ·subst h;rfl
    ·rw[cB (by omega),bM.2 (by omega)];rfl
   rw[Cy,ct hi,aB,bR hi,bG (by omega)];simp only[lt_eq];rw[afc,afa _ (by omega),afb,hp];unfold rC;rw[show((gi c.J (i:Int)).bj !=0)=!((gi c.J (i:Int)).bj==0)from rfl];cases decide (0<ln (gi c.J (i:Int)).J)<;>cases nM (gi c.J (i:Int)).aA<;>cases((gi c.J (i:Int)).a7==4)<;>
    cases(((i:Nat):Int)==0)<;>cases((gi c.J (i:Int)).bj==0)<;>cases Ej (gi c.J (i:Int)).aO<;>try rfl
   all_goals cases((gi c.J (i:Int)).a7==5)<;>cases((gi c.J (i:Int)).a7==6)<;>cases((gi c.J (i:Int)).aO==[])<;>cases decide ((gi c.J (i:Int)).bj<0)<;>cases yB (gi c.J (i:Int)).bj<;>rfl)
   (λkk i hi=>by rw[Cy,cq hi];rfl)
 unfold Fy ov;rw[a,Md];simp only[lt_eq];rw[show(c.a7 !=1)=!(c.a7==1)from rfl];cases(c.a7==1)<;>cases dq c<;>cases(ln c.J==0)<;>cases yN c.J<;>rfl
def En(c:aP):Bool:=cond (decide (0<ln c.J)) ((gi c.J (0:Int)).a7==4) false
theorem afd{c:aP}(h:ov c=true):0<ln c.J:=by
 unfold ov at h;cases hk:(c.a7==1)<;>rw[hk]at h
 ·exact absurd h Bool.false_ne_true
 ·cases hr:dq c<;>rw[hr]at h
  ·exact absurd h Bool.false_ne_true
  ·cases hl:(ln c.J==0)<;>rw[hl]at h
   ·rw[sE]at hl;have:=of_decide_eq_false hl;unfold ln;omega
   ·exact absurd h Bool.false_ne_true
theorem a1Y(c:aP)(hb:zC c≤1048576):Hd FU c=some (ov c,cond (ov c) (En c) false):=by
 rw[jA]at hb;have hl:=nC c.J;have a:DF FU c FU 0=cond (yN c.J) (some (.inr ())) (some (.inl (false,false))):=
  a1W (DF FU c) c.J (some (.inl (false,false))) (some (.inr ())) (by omega) (λkk i hi hm=>by
   have hz:=mC hm;rw[jA]at hz;rw[DF,ct hi,aB,bR hi,bG (by omega)];simp only[lt_eq];rw[aev _ (by omega)];unfold rC;rw[show((gi c.J (i:Int)).a7 !=5)=!((gi c.J (i:Int)).a7==5)from rfl,show((gi c.J (i:Int)).a7 !=6)=!((gi c.J (i:Int)).a7==6)from rfl];by_cases h4:(gi c.J (i:Int)).a7=4
   ·rw[h4];cases decide (0<ln (gi c.J (i:Int)).J)<;>cases nM (gi c.J (i:Int)).aA<;>
     cases(((i:Nat):Int)==0)<;>cases((gi c.J (i:Int)).bj==0)<;>cases Ej (gi c.J (i:Int)).aO<;>rfl
   ·rw[bM.2 h4];cases decide (0<ln (gi c.J (i:Int)).J)<;>cases nM (gi c.J (i:Int)).aA<;>
     cases(((i:Nat):Int)==0)<;>try rfl
    all_goals cases((gi c.J (i:Int)).a7==5)<;>cases((gi c.J (i:Int)).a7==6)<;>cases((gi c.J (i:Int)).aO==[])<;>cases decide ((gi c.J (i:Int)).bj<0)<;>cases yB (gi c.J (i:Int)).bj<;>rfl)
   (λkk i hi=>by rw[DF,cq hi];rfl)
 unfold Hd;rw[a];simp only[lt_eq];have hq:ov c=cond (c.a7==1) (cond (dq c) (cond (ln c.J==0) false (yN c.J)) false) false:=rfl;have h0:=λh=>afd (c:=c) h;unfold En
 revert h0
 rw[hq,show(c.a7 !=1)=!(c.a7==1)from rfl];cases(c.a7==1)<;>cases dq c<;>cases(ln c.J==0)<;>cases yN c.J<;>intro h0<;>try rfl
 rw[cB (h0 rfl)];exact bz ⟨Int.le_refl _,h0 rfl⟩
def ask(c:aP):Bool:=cond (c.a7==3) (cond (dq c) (cond (ln c.J==1) (cond (ov (gi c.J (0:Int))) (En (gi c.J (0:Int))) false) false) false) (ov c)
theorem Bk{α:Type}[Inhabited α](l:List α)(h:(ln l==1)=true):0<ln l∧gi l (0:Int)∈l:=by
 have:=eq_of_beq h;unfold ln at this⊢;exact⟨by omega,fY (i:=0) (by omega)⟩
theorem afe(c:aP)(hb:zC c≤1048576):JD FU c=some (ask c):=by
 unfold JD ask;rw[a1X c hb,Md];simp only[lt_eq];cases(c.a7==3)
 ·rfl
 ·cases h1:(ln c.J==1)
  ·cases dq c<;>rfl
  ·obtain⟨h0,hm⟩:=Bk _ h1;have hz:=mC hm;rw[jA]at hb;rw[bz (λ_=>⟨Int.le_refl _,h0⟩),a1X _ (by omega)];have en:JC (gi c.J (0:Int))=some (En (gi c.J (0:Int))):=by
    unfold JC En;rw[bz (λh=>⟨Int.le_refl _,jH h⟩)];rfl
   rw[en];cases dq c
   ·rfl
   ·simp only[aB,aF];rw[bz (λ_=>⟨Int.le_refl _,h0⟩)];cases ov (gi c.J (0:Int))<;>cases En (gi c.J (0:Int))<;>rfl
theorem aff(c:aP)(hb:zC c≤1048576):L0 FU c=some (ask c):=by
 unfold L0 ask;rw[a1Y c hb];simp only[lt_eq];rw[show(ln c.J !=1)=!(ln c.J==1)from rfl];cases(c.a7==3)
 ·rfl
 ·cases h1:(ln c.J==1)
  ·cases dq c<;>rfl
  ·obtain⟨h0,hm⟩:=Bk _ h1;have hz:=mC hm;rw[jA]at hb;rw[bz ⟨Int.le_refl _,h0⟩,a1Y _ (by omega)];cases dq c<;>cases ov (gi c.J (0:Int))<;>cases En (gi c.J (0:Int))<;>rfl
def mz(c:aP):Bool:=cond (dq c) (cond (c.a7==1) (ln c.J==0) (cond (c.a7==2) (cond (decide (ln c.J<1)) false (cond (decide (64<ln c.J)) false (!(c.J.any λx=>!(ask x))))) false)) false
theorem a1Z(c:aP)(hb:zC c≤1048576):∃e,CA FU c=some e∧(e !=0)=!(mz c)∧(e=0∨e=8):=by
 rw[jA]at hb;have hl:=nC c.J;have a:JF FU c.J=some (c.J.any λx=>!(ask x)):=by
  unfold JF NE;refine Bd (Fz FU c.J) c.J _ (by omega) (λkk i hi hm=>?_) (λkk i hi=>by rw[Fz,cq hi];rfl);have:=mC hm;rw[Fz,ct hi,aB,bR hi,bG (by omega)];unfold NC;rw[afe _ (by omega)];rfl
 have e1:decide (0<ln c.J)=!(decide (ln c.J<1)):=by
  by_cases h:0<ln c.J
  ·rw[cB h,cv (by omega)];rfl
  ·rw[cv h,cB (by omega)];rfl
 have e2:decide (ln c.J≤64)=!(decide (64<ln c.J)):=by
  by_cases h:64<ln c.J
  ·rw[cB h,cv (by omega)];rfl
  ·rw[cv h,cB (by omega)];rfl
 unfold CA mz;rw[a,Md,e1,e2];simp only[lt_eq];by_cases h1:c.a7=1
 ·rw[h1];cases dq c<;>cases(ln c.J==0)<;>cases decide (ln c.J<1)<;>cases decide (64<ln c.J)<;>cases(c.J.any λx=>!(ask x))<;>exact⟨_,rfl,rfl,by simp⟩
 ·rw[bM.2 h1];cases(c.a7==2)<;>cases dq c<;>cases decide (ln c.J<1)<;>cases decide (64<ln c.J)<;>cases(c.J.any λx=>!(ask x))<;>exact⟨_,rfl,rfl,by simp⟩
theorem a22(c:aP)(hb:zC c≤1048576):He FU c=some (mz c):=by
 rw[jA]at hb;have hl:=nC c.J;have a:DG FU c FU 0=cond (c.J.any λx=>!(ask x)) (some (.inl false)) (some (.inr ())):=
  pd (DG FU c) c.J _ _ _ (by omega) (λkk i hi hm=>by
   have:=mC hm;rw[DG,ct hi,aB,bR hi,bG (by omega),aff _ (by omega)];rfl) (λkk i hi=>by rw[DG,cq hi];rfl)
 unfold He mz;rw[a,show(c.a7 !=2)=!(c.a7==2)from rfl];simp only[lt_eq];cases dq c<;>cases(c.a7==1)<;>cases(c.a7==2)<;>cases decide (ln c.J<1)<;>cases decide (64<ln c.J)<;>cases(c.J.any λx=>!(ask x))<;>rfl
def qA(c:aP):Bool:=cond (c.a7==7) true (c.a7==8)
mutual
def fJ:aP→Nat
 | .mk _ _ _ _ l=>1+xb l
def xb:List aP→Nat
 |[]=>0
 |v::r=>fJ v+xb r
end
mutual
def iH:aP→Nat
 | .mk K _ _ D l=>cond (K==7) (1+fI D.Value) (cond (K==8) 1 (pK l))
def pK:List aP→Nat
 |[]=>0
 |v::r=>max (cond (qA v) 0 1+iH v) (pK r)
end
mutual
def tG:aP→Nat
 | .mk K _ _ D l=>cond (K==7) (1+cond (gN D.Value==0) (fI D.Value) 0) (cond (K==8) 1 (xc l))
def xc:List aP→Nat
 |[]=>0
 |v::r=>max (cond (qA v) 0 1+tG v) (xc r)
end
mutual
def mA:aP→Bool
 | .mk K N M D l=>cond (K==7) (cond (cond (cond (N==[]) (M==0) false) (ln l==0) false) (!(ke D)) false)
  (cond (K==8) (cond (dq (.mk K N M D l)) (ln l==0) false)
  (cond (K==3) (cond (dq (.mk K N M D l)) (cond (ln l==1) (kN l) false) false)
  (cond (cond (K==1) true (K==2)) (cond (dq (.mk K N M D l)) (cond (decide (ln l<2)) false (kN l)) false) false)))
def kN:List aP→Bool
 |[]=>true
 |v::r=>mA v&&kN r
end
theorem VQ(c:aP):fJ c=1+xb c.J:=by obtain⟨a,b,d,e,l⟩:=c;rw[fJ];rfl
theorem PK(c:aP):iH c=cond (c.a7==7) (1+fI c.aA.Value) (cond (c.a7==8) 1 (pK c.J)):=by obtain⟨a,b,d,e,l⟩:=c;rw[iH];rfl
theorem VR(c:aP):tG c=cond (c.a7==7) (1+cond (gN c.aA.Value==0) (fI c.aA.Value) 0) (cond (c.a7==8) 1 (xc c.J)):=by obtain⟨a,b,d,e,l⟩:=c;rw[tG];rfl
theorem PL(c:aP):mA c=cond (c.a7==7) (cond (cond (cond (c.aO==[]) (c.bj==0) false) (ln c.J==0) false) (!(ke c.aA)) false)
  (cond (c.a7==8) (cond (dq c) (ln c.J==0) false)
  (cond (c.a7==3) (cond (dq c) (cond (ln c.J==1) (kN c.J) false) false)
  (cond (cond (c.a7==1) true (c.a7==2)) (cond (dq c) (cond (decide (ln c.J<2)) false (kN c.J)) false) false))):=by obtain⟨a,b,d,e,l⟩:=c;rw[mA];rfl
theorem PM:∀l,xb l=zL fJ l
 |[]=>by rw[xb,zL]
 |v::r=>by rw[xb,zL,PM r]
theorem VS:∀l,pK l=mL (λv=>cond (qA v) 0 1+iH v) l
 |[]=>by rw[pK,mL]
 |v::r=>by rw[pK,mL,VS r]
theorem VT:∀l,xc l=mL (λv=>cond (qA v) 0 1+tG v) l
 |[]=>by rw[xc,mL]
 |v::r=>by rw[xc,mL,VT r]
theorem a23:∀l,kN l=!(l.any λx=>!(mA x))
 |[]=>by rw[kN];rfl
 |v::r=>by rw[kN,a23 r,List.any_cons];cases mA v<;>rfl
theorem Me(n:Nat):∀c:aP,zC c≤n→fJ c≤zC c∧iH c+1≤zC c∧tG c+1≤zC c:=by
 induction n using Nat.strongRecOn with
 |_ n ih=>
  intro c h;have hz:=jA c;have hs:xb c.J≤pc c.J:=by
   rw[PM,LY];exact Ei λx hx=>(ih (zC x) (by have:=mC hx;omega) x (dz _)).1
  have hd:pK c.J≤pc c.J:=by
   rw[VS];refine qy λx hx=>?_;have h1:=mC hx;have h2:=(ih (zC x) (by omega) x (dz _)).2.1;cases qA x
   ·rw[aG];omega
   ·rw[aB];omega
  have ht:xc c.J≤pc c.J:=by
   rw[VT];refine qy λx hx=>?_;have h1:=mC hx;have h2:=(ih (zC x) (by omega) x (dz _)).2.2;cases qA x
   ·rw[aG];omega
   ·rw[aB];omega
  have hv:=(wV _ c.aA.Value (dz _)).2;have hD:=rz c.aA;rw[VQ,PK,VR];refine⟨by omega,?_,?_⟩
  ·cases(c.a7==7)
   ·cases(c.a7==8)
    ·rw[aG,aG];omega
    ·rw[aG,aB];omega
   ·rw[aB];omega
  ·cases(c.a7==7)
   ·cases(c.a7==8)
    ·rw[aG,aG];omega
    ·rw[aG,aB];omega
   ·rw[aB];cases(gN c.aA.Value==0)
    ·rw[aG];omega
    ·rw[aB];omega
theorem VU(v:List aj)(hb:cj v≤1048576):Ch FU v=some (cond (gN v==0) ((fI v:Nat):Int) 0,gN v):=by
 unfold Ch;rw[Pl FU (by decide) v hb,aF,show Ji FU v 0=_ from a0N FU (by decide) FU v 0 (by unfold FU;omega) hb,aF,show(gN v !=0)=!(gN v==0)from rfl];cases h:(gN v==0)
 ·rfl
 ·rw[eq_of_beq h];rfl
theorem afg:∀(k:Nat)(c:aP),zC c<k→zC c≤1048576→A0 FU k c=some ((tG c:Nat):Int):=by
 intro k
 induction k with
 |zero=>intro c h;omega
 |succ k ih=>
  intro c hk hb;have hz:=jA c;have hD:=rz c.aA;have hl:=nC c.J;have hv:=(wV _ c.aA.Value (dz _)).2;have a:=Be (CB FU c (A0 FU k)) c.J (λv=>cond (qA v) 0 1+tG v) (by omega) (λkk i a hi hm=>by
   have h1:=mC hm;have h2:=(Me _ (gi c.J (i:Int)) (dz _)).2.2;rw[CB,ct hi,aB,bR hi,bG (by omega),ih _ (by omega) (by omega),aF];simp only[lt_eq];unfold qA;rw[show((gi c.J (i:Int)).a7 !=7)=!((gi c.J (i:Int)).a7==7)from rfl,show((gi c.J (i:Int)).a7 !=8)=!((gi c.J (i:Int)).a7==8)from rfl];cases((gi c.J (i:Int)).a7==7)<;>cases((gi c.J (i:Int)).a7==8)
   ·simp only[gS,aB,aG,aF];rw[bG (by omega),tF,Nat.add_comm 1]
   all_goals simp only[gS,fL,aB,aG,aF]
   all_goals rw[tF,Nat.zero_add]) (λkk i a hi=>by rw[CB,cq hi];rfl) FU 0 0 (by unfold FU;omega)
  rw[du,Nat.zero_max,←VT]at a;rw[A0,show(0:Int)=((0:Nat):Int)from rfl,show CB FU c (A0 FU k) FU ((0:Nat):Int) ((0:Nat):Int)=_ from a,VU _ (by omega),VR];cases(c.a7==7)
  ·cases(c.a7==8)<;>rfl
  ·simp only[aB,aF];cases(gN c.aA.Value==0)
   ·rfl
   ·simp only[aB];rw[bG (by omega),Nat.add_comm 1]
theorem a25:∀(k:Nat)(c:aP)(q:Nat),zC c<k→zC c≤1048576→q≤1048576→∃n:Nat,C2 FU k c (q:Int)=some (n:Int)∧n≤fJ c∧(fJ c≤q→n=fJ c)∧(q<fJ c→q<n):=by
 intro k
 induction k with
 |zero=>intro c q h;omega
 |succ k ih=>
  intro c q hk hb hq;have hz:=jA c;have hl:=nC c.J;have nZ:=(Me _ c (dz _)).1;have H:∀(kk i a:Nat),c.J.length-i<kk→i≤c.J.length→a+zL fJ (c.J.drop i)≤1048576→
    ∃n:Nat,IP FU c (q:Int) (C2 FU k) kk (a:Int) (i:Int)=some (n:Int)∧n≤a+zL fJ (c.J.drop i)∧(a+zL fJ (c.J.drop i)≤q→n=a+zL fJ (c.J.drop i))∧(q<a+zL fJ (c.J.drop i)→q<n):=by
   intro kk
   induction kk with
   |zero=>intro i a h;omega
   |succ kk oH=>
    intro i a h hi ha;rw[IP];simp only[lt_eq];by_cases h1:i<c.J.length
    ·have hm:=fY h1;have hx:=mC hm;have e:zL fJ (c.J.drop i)=fJ (gi c.J (i:Int))+zL fJ (c.J.drop (i+1)):=by rw[fv h1,zL,←fh _ i h1]
     rw[ct h1,aB];by_cases h2:a≤q
     ·obtain⟨n,hn,n1,n2,n3⟩:=ih (gi c.J (i:Int)) (q-a) (by omega) (by omega) (by omega);obtain⟨m,I5,m1,m2,m3⟩:=oH (i+1) (a+n) (by omega) (by omega) (by omega);refine⟨m,?_,by omega,λhh=>by have:=n2 (by omega);have:=m2 (by omega);omega,λhh=>?_⟩
      ·rw[cB (show(a:Int)≤(q:Int) by omega),aB,bR h1,o5 (by omega) (by omega),show(q:Int)-(a:Int)=((q-a:Nat):Int) by omega,hn,aF,HO _ _ (by omega),bG (by omega),I5]
      ·by_cases h3:q-a<fJ (gi c.J (i:Int))
       ·have:=n3 h3;exact m3 (by omega)
       ·have:=n2 (by omega);exact m3 (by omega)
     ·refine⟨a,?_,by omega,by omega,by omega⟩;rw[cv (show¬((a:Int)≤(q:Int)) by omega)];rfl
    ·refine⟨a,?_,by omega,?_,?_⟩
     ·rw[cq (by omega)];rfl
     ·rw[gR (by omega),zL];omega
     ·rw[gR (by omega),zL];omega
  have hs:=VQ c;rw[PM]at hs;obtain⟨n,hn,n1,n2,n3⟩:=H FU 0 1 (by unfold FU;omega) (fT _) (by rw[du];omega);rw[du]at n1 n2 n3;refine⟨n,?_,by omega,λhh=>by have:=n2 (by omega);omega,λhh=>n3 (by omega)⟩;rw[C2,show(1:Int)=((1:Nat):Int)from rfl,show(0:Int)=((0:Nat):Int)from rfl,hn];rfl
theorem a26:∀(k:Nat)(c:aP),zC c<k→zC c≤1048576→AN FU k c=some ((iH c:Nat):Int):=by
 intro k
 induction k with
 |zero=>intro c h;omega
 |succ k ih=>
  intro c hk hb;have hz:=jA c;have hD:=rz c.aA;have hl:=nC c.J;have hv:=(wV _ c.aA.Value (dz _)).2;have a:=Be (DH FU c (AN FU k)) c.J (λv=>cond (qA v) 0 1+iH v) (by omega) (λkk i a hi hm=>by
   have h1:=mC hm;have h2:=(Me _ (gi c.J (i:Int)) (dz _)).2.1;rw[DH,ct hi,aB,bR hi,bG (by omega),ih _ (by omega) (by omega)];simp only[lt_eq];unfold qA;cases(cond ((gi c.J (i:Int)).a7==7) true ((gi c.J (i:Int)).a7==8))
   all_goals simp only[aB,aG,aF]
   ·rw[PD _ (by omega),tF]
   ·rw[show(0:Int)+((iH (gi c.J (i:Int)):Nat):Int)=((0+iH (gi c.J (i:Int)):Nat):Int) by omega,o5 (by omega) (by omega),tF]) (λkk i a hi=>by rw[DH,cq hi];rfl) FU 0 0 (by unfold FU;omega)
  rw[du,Nat.zero_max,←VS]at a;rw[AN,show(0:Int)=((0:Nat):Int)from rfl,show DH FU c (AN FU k) FU ((0:Nat):Int) ((0:Nat):Int)=_ from a,show xA FU c.aA.Value=_ from Pj FU (by decide) FU _ (by unfold FU;omega) (by omega),PK];cases(c.a7==7)
  ·cases(c.a7==8)<;>rfl
  ·simp only[aB,aF];rw[PD _ (by omega)]
theorem afh:∀(k:Nat)(c:aP),zC c<k→zC c≤1048576→wN FU k c=some (mA c):=by
 intro k
 induction k with
 |zero=>intro c h;omega
 |succ k ih=>
  intro c hk hb;have hz:=jA c;have hl:=nC c.J;have a:DJ FU c (wN FU k) FU 0=cond (c.J.any λx=>!(mA x)) (some (.inl (.inl false))) (some (.inr ())):=
   pd (DJ FU c (wN FU k)) c.J _ _ _ (by omega) (λkk i hi hm=>by
    have:=mC hm;rw[DJ,ct hi,aB,bR hi,bG (by omega),ih _ (by omega) (by omega)];rfl) (λkk i hi=>by rw[DJ,cq hi];rfl)
  have a3:(ln c.J==1)=true→wN FU k (gi c.J (0:Int))=some (kN c.J):=λh1=>by
   have hm:=(Bk _ h1).2;have:=mC hm;rw[ih _ (by omega) (by omega)];have h2:=eq_of_beq h1;generalize c.J=l at h2⊢
   match l,h2 with
   |[x],_=>rw[kN,kN,oF];rfl
  rw[wN,a,a1E _ (by omega),PL];simp only[lt_eq];cases(c.a7==7)
  ·cases(c.a7==8)
   ·cases(c.a7==3)
    ·rw[a23];cases(c.a7==1)<;>cases(c.a7==2)<;>cases dq c<;>cases decide (ln c.J<2)<;>cases(c.J.any λx=>!(mA x))<;>rfl
    ·cases h1:(ln c.J==1)
     ·cases dq c<;>rfl
     ·rw[bz (λ_=>⟨Int.le_refl _,(Bk _ h1).1⟩),a3 h1];cases dq c<;>rfl
   ·cases dq c<;>rfl
  ·cases(c.aO==[])<;>cases(c.bj==0)<;>cases(ln c.J==0)<;>cases ke c.aA<;>rfl
def sup(c:aP):Bool:=decide (fJ c≤1500)&&(decide (iH c≤16)&&mA c)
theorem VV(c:aP)(hb:zC c≤1048576):DL FU c=some (sup c):=by
 obtain⟨n,hn,n1,n2,n3⟩:=a25 FU c 1500 (by unfold FU;omega) hb (by decide);unfold DL sup;rw[show IQ FU c 1500=_ from hn,show L1 FU c=_ from a26 FU c (by unfold FU;omega) hb,show Uv FU c=_ from afh FU c (by unfold FU;omega) hb];have e1:decide ((n:Int)≤1500)=decide (fJ c≤1500):=by
  by_cases h:fJ c≤1500
  ·have:=n2 h;rw[cB h,cB (by omega)]
  ·have:=n3 (by omega);rw[cv h,cv (by omega)]
 have e2:decide (((iH c:Nat):Int)≤16)=decide (iH c≤16):=by
  by_cases h:iH c≤16
  ·rw[cB h,cB (by omega)]
  ·rw[cv h,cv (by omega)]
 simp only[lt_eq,aF];rw[e1];cases decide (fJ c≤1500)
 ·rfl
 ·simp only[aB,aF];rw[e2];cases decide (iH c≤16)<;>cases mA c<;>rfl
def LK(r:Option (Int×Bool×Int))(c:aP)(n:Nat):Prop:=
 ((n+fJ c≤1500∧mA c=true)∧r=some (((iH c:Nat):Int),true,((n+fJ c:Nat):Int)))∨(¬(n+fJ c≤1500∧mA c=true)∧∃d q,r=some (d,false,q))
theorem afi:∀(k:Nat)(c:aP)(n:Nat),zC c<k→zC c≤1048576→n≤1500→LK (sZ FU k c (n:Int)) c n:=by
 intro k
 induction k with
 |zero=>intro c n h;omega
 |succ k ih=>
  intro c n hk hb hn;have hz:=jA c;have hD:=rz c.aA;have hl:=nC c.J;have hv:=(wV _ c.aA.Value (dz _)).2;have hs:=VQ c;have H:∀(kk i a n:Nat),c.J.length-i<kk→i≤c.J.length→n≤1500→
    ((n+zL fJ (c.J.drop i)≤1500∧kN (c.J.drop i)=true)∧we FU c (sZ FU k) kk (a:Int) (i:Int) (n:Int)=some (.inr (((max a (pK (c.J.drop i)):Nat):Int),((n+zL fJ (c.J.drop i):Nat):Int))))∨
    (¬(n+zL fJ (c.J.drop i)≤1500∧kN (c.J.drop i)=true)∧∃q,we FU c (sZ FU k) kk (a:Int) (i:Int) (n:Int)=some (.inl (0,false,q))):=by
   intro kk
   induction kk with
   |zero=>intro i a n h;omega
   |succ kk oH=>
    intro i a n h hi hn;rw[we];by_cases h1:i<c.J.length
    ·have hm:=fY h1;have hx:=mC hm;have ER:=(Me _ (gi c.J (i:Int)) (dz _)).2.1;have e:zL fJ (c.J.drop i)=fJ (gi c.J (i:Int))+zL fJ (c.J.drop (i+1)):=by rw[fv h1,zL,←fh _ i h1]
     have e2:kN (c.J.drop i)=(mA (gi c.J (i:Int))&&kN (c.J.drop (i+1))):=by rw[fv h1,kN,←fh _ i h1]
     have e3:pK (c.J.drop i)=max (cond (qA (gi c.J (i:Int))) 0 1+iH (gi c.J (i:Int))) (pK (c.J.drop (i+1))):=by rw[fv h1,pK,←fh _ i h1]
     rw[ct h1,aB,bR h1,e,e2,e3,bG (by omega)];rcases ih (gi c.J (i:Int)) n (by omega) (by omega) hn with⟨⟨g1,g2⟩,g3⟩|⟨g1,d,q,g3⟩
     ·rw[g3,aF,g2,kR];have e4:FA (gi c.J (i:Int))=qA (gi c.J (i:Int)):=rfl;have e5:(cond (!(FA (gi c.J (i:Int)))) (some (a8 (((iH (gi c.J (i:Int)):Nat):Int)+1))) (some ((iH (gi c.J (i:Int)):Nat):Int)))=some (((cond (qA (gi c.J (i:Int))) 0 1+iH (gi c.J (i:Int)):Nat)):Int):=by
       rw[e4,bG (by omega)];cases qA (gi c.J (i:Int))
       ·rw[gS,aB,aG,Nat.add_comm]
       ·rw[fL,aG,aB,Nat.zero_add]
      simp only[fL,aG];rw[e5,aF,tF];rcases oH (i+1) (max a (cond (qA (gi c.J (i:Int))) 0 1+iH (gi c.J (i:Int)))) (n+fJ (gi c.J (i:Int))) (by omega) (by omega) (by omega)with⟨⟨f1,f2⟩,f3⟩|⟨f1,q,f3⟩
      ·refine Or.inl ⟨⟨by omega,f2⟩,?_⟩;rw[f3,Nat.max_assoc,Nat.add_assoc]
      ·exact Or.inr ⟨λhh=>f1 ⟨by omega,hh.2⟩,q,f3⟩
     ·refine Or.inr ⟨λhh=>g1 ⟨by omega,(Bool.and_eq_true_iff.1 hh.2).1⟩,q,?_⟩;rw[g3];rfl
    ·rw[cq (by omega),gR (by omega),zL,kN,pK,Nat.max_zero,Nat.add_zero];exact Or.inl ⟨⟨hn,rfl⟩,rfl⟩
  have ha:=H FU 0 0 (n+1) (by unfold FU;omega) (fT _);rw[du,Nat.zero_max,←PM]at ha;unfold LK;rw[sZ,bG (by omega),a1D _ (by omega),VU _ (by omega),Md,PL,PK];by_cases h0:1500<n+1
  ·rw[cB (show(1500:Int)<((n+1:Nat):Int) by omega)];exact Or.inr ⟨by omega,_,_,rfl⟩
  ·rw[cv (show¬((1500:Int)<((n+1:Nat):Int)) by omega),aG];have ha:=ha (by omega);simp only[lt_eq];have l0:(ln c.J==0)=true→xb c.J=0:=λh=>by
    rw[sE]at h;rw[u4 (jH h),xb]
   have l1:decide (ln c.J<2)=true→True:=λ_=>trivial;by_cases h7:c.a7=7
   ·rw[h7];simp only[show((7:Int)==7)=true from rfl,aB,aF];cases h1:(ln c.J==0)
    ·exact Or.inr ⟨λhh=>by have:=hh.2;revert this;cases(c.aO==[])<;>cases(c.bj==0)<;>exact Bool.noConfusion,_,_,by cases(c.aO==[])<;>cases(c.bj==0)<;>rfl⟩
    ·have:=l0 h1;cases(c.aO==[])<;>cases(c.bj==0)<;>try exact Or.inr ⟨λhh=>Bool.noConfusion hh.2,_,_,rfl⟩
     cases hd:ke c.aA
     ·have BF:gN c.aA.Value=0:=by
       unfold ke at hd;rw[sJ,sJ]at hd;have:=hd.2.1;by_cases hc:gN c.aA.Value=0
       ·exact hc
       ·rw[bne_iff_ne.2 hc]at this;exact Bool.noConfusion this
      refine Or.inl ⟨⟨by omega,rfl⟩,?_⟩;rw[BF];simp only[show((0:Int)==0)=true from rfl,aB,aG,aF];rw[bG (by omega),Nat.add_comm 1,show n+fJ c=n+1 by omega]
     ·refine Or.inr ⟨λhh=>Bool.noConfusion hh.2,?_⟩;cases(gN c.aA.Value==0)<;>exact⟨_,_,rfl⟩
   ·rw[bM.2 h7];by_cases h8:c.a7=8
    ·rw[h8];simp only[show((8:Int)==8)=true from rfl,aB,aG];cases h1:(ln c.J==0)
     ·exact Or.inr ⟨λhh=>by have:=hh.2;revert this;cases dq c<;>exact Bool.noConfusion,_,_,rfl⟩
     ·have:=l0 h1;cases dq c
      ·exact Or.inr ⟨λhh=>Bool.noConfusion hh.2,_,_,rfl⟩
      ·refine Or.inl ⟨⟨by omega,rfl⟩,?_⟩;rw[show n+fJ c=n+1 by omega];rfl
    ·rw[bM.2 h8];simp only[aG];have fin:∀b:Bool,b=true→(((n+fJ c≤1500∧kN c.J=true)∧(Option.bind (we FU c (sZ FU k) FU 0 0 ((n+1:Nat):Int)) λ(qa:Sum (Int×Bool×Int) (Int×Int))=>bK qa λs8=>some (s8.1,true,s8.2))=some (((pK c.J:Nat):Int),true,((n+fJ c:Nat):Int)))∨
       (¬(n+fJ c≤1500∧kN c.J=true)∧∃d q,(Option.bind (we FU c (sZ FU k) FU 0 0 ((n+1:Nat):Int)) λ(qa:Sum (Int×Bool×Int) (Int×Int))=>bK qa λs8=>some (s8.1,true,s8.2))=some (d,false,q))):=λb hb=>by
      rcases ha with⟨⟨f1,f2⟩,f3⟩|⟨f1,q,f3⟩
      ·refine Or.inl ⟨⟨by omega,f2⟩,?_⟩;rw[show we FU c (sZ FU k) FU 0 0 ((n+1:Nat):Int)=_ from f3,show n+fJ c=n+1+xb c.J by omega];rfl
      ·refine Or.inr ⟨λhh=>f1 ⟨by omega,hh.2⟩,0,q,?_⟩;rw[show we FU c (sZ FU k) FU 0 0 ((n+1:Nat):Int)=_ from f3];rfl
     have fin:=fin true rfl;rw[show(c.a7 !=3)=!(c.a7==3)from rfl,show(ln c.J !=1)=!(ln c.J==1)from rfl];cases dq c
     ·refine Or.inr ⟨λhh=>?_,?_⟩
      ·have:=hh.2;revert this;cases(c.a7==3)<;>cases(c.a7==1)<;>cases(c.a7==2)<;>exact Bool.noConfusion
      ·cases(c.a7==3)<;>cases(c.a7==1)<;>cases(c.a7==2)<;>exact⟨_,_,rfl⟩
     ·cases(c.a7==3)
      ·cases(c.a7==1)<;>cases(c.a7==2)
       ·exact Or.inr ⟨λhh=>Bool.noConfusion hh.2,_,_,rfl⟩
       all_goals cases decide (ln c.J<2)
       all_goals first|exact fin|exact Or.inr ⟨λhh=>Bool.noConfusion hh.2,_,_,rfl⟩
      ·cases(ln c.J==1)
       ·exact Or.inr ⟨λhh=>Bool.noConfusion hh.2,_,_,rfl⟩
       ·exact fin
theorem VW(c:aP)(hb:zC c≤1048576):∃e,A1 FU c=some e∧(e !=0)=!(sup c)∧(e=0∨e=8):=by
 have h:=afi FU c 0 (by unfold FU;omega) hb (by decide);unfold A1 sup;rcases h with⟨⟨f1,f2⟩,f3⟩|⟨f1,d,q,f3⟩
 ·rw[show NG FU c 0=_ from f3,f2,cB (show fJ c≤1500 by omega)];by_cases h:iH c≤16
  ·rw[cB h];refine⟨0,?_,rfl,Or.inl rfl⟩;simp only[aF,lt_eq];rw[cv (show¬((16:Int)<((iH c:Nat):Int)) by omega)];rfl
  ·rw[cv h];refine⟨8,?_,rfl,Or.inr rfl⟩;simp only[aF,lt_eq];rw[cB (show(16:Int)<((iH c:Nat):Int) by omega)];rfl
 ·rw[show NG FU c 0=_ from f3];refine⟨8,rfl,?_,Or.inr rfl⟩;cases hs:mA c
  ·cases decide (fJ c≤1500)<;>cases decide (iH c≤16)<;>rfl
  ·rw[cv (λhh=>f1 ⟨by omega,hs⟩)];rfl
theorem afj(n:Nat):∀c:aP,zC c≤n→mA c=true→tG c=iH c:=by
 induction n using Nat.strongRecOn with
 |_ n ih=>
  intro c h hs;have hz:=jA c;have hl:∀l:List aP,(∀x∈l,zC x<n)→kN l=true→xc l=pK l:=by
   intro l
   induction l with
   |nil=>intro _ _;rw[xc,pK]
   |cons v r yF=>
    intro hm hp;rw[kN,Bool.and_eq_true_iff]at hp;rw[xc,pK,yF (λx hx=>hm x (List.mem_cons_of_mem _ hx)) hp.2,ih (zC v) (hm v List.mem_cons_self) v (dz _) hp.1]
  have hl:=hl c.J (λx hx=>by have:=mC hx;omega);rw[PL]at hs;rw[VR,PK];by_cases h7:c.a7=7
  ·rw[h7]at hs⊢;have hd:ke c.aA=false:=by
    revert hs
    cases(c.aO==[])<;>cases(c.bj==0)<;>cases(ln c.J==0)<;>cases ke c.aA<;>intro hs<;>first|rfl|exact Bool.noConfusion hs
   have BF:gN c.aA.Value=0:=by
    unfold ke at hd;rw[sJ,sJ]at hd;have:=hd.2.1;by_cases hc:gN c.aA.Value=0
    ·exact hc
    ·rw[bne_iff_ne.2 hc]at this;exact Bool.noConfusion this
   rw[BF];rfl
  ·rw[bM.2 h7]at hs⊢;by_cases h8:c.a7=8
   ·rw[h8];rfl
   ·rw[bM.2 h8]at hs⊢;simp only[aG]at hs⊢;refine hl ?_
    revert hs
    cases(c.a7==3)<;>cases(c.a7==1)<;>cases(c.a7==2)<;>cases dq c<;>cases(ln c.J==1)<;>cases decide (ln c.J<2)<;>cases kN c.J<;>intro hs<;>first|rfl|exact Bool.noConfusion hs
mutual
def pf:aP→Nat
 | .mk K _ _ _ l=>max (cond (cond (K==5) true (K==6)) 1 0) (vh l)
def vh:List aP→Nat
 |[]=>0
 |v::r=>max (pf v) (vh r)
end
theorem Eo(c:aP):pf c=max (cond (cond (c.a7==5) true (c.a7==6)) 1 0) (vh c.J):=by obtain⟨a,b,d,e,l⟩:=c;rw[pf];rfl
theorem Mf:∀l,vh l=mL pf l
 |[]=>by rw[vh,mL]
 |v::r=>by rw[vh,mL,Mf r]
theorem afk:∀(k:Nat)(c:aP),zC c<k→zC c≤1048576→xR FU k c=some ((pf c:Nat):Int):=by
 intro k
 induction k with
 |zero=>intro c h;omega
 |succ k ih=>
  intro c hk hb;have hz:=jA c;have hl:=nC c.J;have a:=λn=>Be (zZ FU c (xR FU k)) c.J pf (by omega) (λkk i a hi hm=>by
   have h1:=mC hm;rw[zZ,ct hi,aB,bR hi,bG (by omega),ih _ (by omega) (by omega),aF,tF]) (λkk i a hi=>by rw[zZ,cq hi];rfl) FU 0 n (by unfold FU;omega)
  simp only[du]at a;rw[xR,Eo,Mf];cases(cond (c.a7==5) true (c.a7==6))
  ·simp only[aG,aF];rw[show(0:Int)=((0:Nat):Int)from rfl,show zZ FU c (xR FU k) FU ((0:Nat):Int) ((0:Nat):Int)=_ from a 0];rfl
  ·simp only[aB,aF];rw[show(1:Int)=((1:Nat):Int)from rfl,show(0:Int)=((0:Nat):Int)from rfl,show zZ FU c (xR FU k) FU ((1:Nat):Int) ((0:Nat):Int)=_ from a 1];rfl
theorem a27{α:Type}[Inhabited α](F:Nat→Int→Int→Option Int)(l:List α)(t:α→Bool)(hl:l.length≤1048576)
  (hF:∀(kk i:Nat)(a:Int),i<l.length→gi l (i:Int)∈l→F (kk+1) a (i:Int)=F kk (cond (t (gi l (i:Int))) 1 a) ((i+1:Nat):Int))(hE:∀kk (i:Nat)(a:Int),l.length≤i→F (kk+1) a (i:Int)=some a):
  ∀(kk i:Nat)(a:Int),l.length-i<kk→F kk a (i:Int)=some (cond ((l.drop i).any t) 1 a):=by
 intro kk
 induction kk with
 |zero=>intro i a h;omega
 |succ kk ih=>
  intro i a h;by_cases h1:i<l.length
  ·rw[hF kk i a h1 (fY h1),ih (i+1) _ (by omega),fv h1,List.any_cons,←fh l i h1];cases t (gi l (i:Int))<;>cases((l.drop (i+1)).any t)<;>rfl
  ·rw[hE kk i a (by omega),gR (by omega)];rfl
def n4(c:aP):Bool:=c.a7 !=4
def yO(x:aP):aP:=cond (cond (x.a7==3) (ln x.J==1) false) (gi x.J (0:Int)) x
def ck(c:aP):Bool:=c.J.any λx=>(yO x).J.any n4
theorem afl(x:aP):(yO x).J.length≤zC x:=by
 have hz:=jA x;unfold yO;cases(x.a7==3)
 ·have:=nC x.J;exact Nat.le_trans this (by omega)
 ·cases h:(ln x.J==1)
  ·have:=nC x.J;exact Nat.le_trans this (by omega)
  ·have:=mC (Bk _ h).2;have:=jA (gi x.J (0:Int));have:=nC (gi x.J (0:Int)).J;show(gi x.J (0:Int)).J.length≤_;omega
theorem a29(z:Int×ag×Int×ag×(List aj)×Bool×(List aP))(hl:z.2.2.2.2.2.2.length≤1048576)(a:Int):DR FU z FU a 0=some (cond (z.2.2.2.2.2.2.any n4) 1 a):=by
 have:=a27 (DR FU z) z.2.2.2.2.2.2 n4 hl (λkk i a hi hm=>by
  rw[DR,ct hi,aB,bR hi,bG (by omega)];unfold n4;cases((gi z.2.2.2.2.2.2 (i:Int)).a7 !=4)<;>rfl) (λkk i a hi=>by rw[DR,cq hi];rfl) FU 0 a (by unfold FU;omega)
 rw[du]at this;exact this
theorem afm(r:bJ)(hb:zC r.aM≤1048576):L4 FU r=some (cond (r.a7==3) ((iH r.aM:Nat):Int) (cond (ck r.aM) 1 0)):=by
 have hz:=jA r.aM;have hl:=nC r.aM.J;have a:=a27 (DS FU r) r.aM.J (λx=>(yO x).J.any n4) (by omega) (λkk i a hi hm=>by
  have h1:=mC hm;have h2:=afl (gi r.aM.J (i:Int));rw[DS,ct hi,aB,bR hi,bG (by omega)];simp only[lt_eq];unfold yO at h2⊢;cases hk:(cond ((gi r.aM.J (i:Int)).a7==3) (ln (gi r.aM.J (i:Int)).J==1) false)
  ·rw[hk]at h2;simp only[aG,aF]at h2⊢;rw[a29 _ (by show(gi r.aM.J (i:Int)).J.length≤_;omega)];rfl
  ·rw[hk]at h2;have h3:(ln (gi r.aM.J (i:Int)).J==1)=true:=by
    revert hk;cases((gi r.aM.J (i:Int)).a7==3)<;>intro hk
    ·exact Bool.noConfusion hk
    ·exact hk
   simp only[aB]at h2⊢;rw[bz ⟨Int.le_refl _,(Bk _ h3).1⟩,aF,a29 _ (by show(gi (gi r.aM.J (i:Int)).J (0:Int)).J.length≤_;omega)];rfl) (λkk i a hi=>by rw[DS,cq hi];rfl) FU 0 0 (by unfold FU;omega)
 rw[du]at a;unfold L4;rw[show DS FU r FU 0 0=_ from a,show L1 FU r.aM=_ from a26 FU _ (by unfold FU;omega) hb];cases(r.a7==3)<;>rfl
theorem VX{α:Type}(f:α→Nat)(t:α→Bool):∀l:List α,(∀x∈l,f x=cond (t x) 1 0)→mL f l=cond (l.any t) 1 0
 |[],_=>rfl
 |v::r,h=>by
  rw[mL,List.any_cons,h v List.mem_cons_self,VX f t r λx hx=>h x (List.mem_cons_of_mem _ hx)];cases t v<;>cases r.any t<;>rfl
theorem a2a{b:Bool}{s:aP}(h:rC b s=true):s.J=[]∧(s.a7=4∨s.a7=5∨s.a7=6):=by
 unfold rC at h;have hl:s.J=[]:=by
  cases hl:decide (0<ln s.J)<;>rw[hl]at h
  ·have:=of_decide_eq_false hl;exact u4 (by unfold ln at this;omega)
  ·exact Bool.noConfusion h
 refine⟨hl,?_⟩;by_cases h4:s.a7=4
 ·exact Or.inl h4
 ·by_cases h5:s.a7=5
  ·exact Or.inr (Or.inl h5)
  ·by_cases h6:s.a7=6
   ·exact Or.inr (Or.inr h6)
   ·rw[bM.2 h4,bM.2 h5,bM.2 h6]at h
    revert h
    cases decide (0<ln s.J)<;>cases nM s.aA<;>exact Bool.noConfusion
theorem a2b{l:List aP}(h:yN l=true):∀s∈l,s.J=[]∧(s.a7=4∨s.a7=5∨s.a7=6):=by
 intro s hs
 match l,h,hs with
 |v::r,h,hs=>
  have h:=Bool.and_eq_true_iff.1 h;rcases List.mem_cons.1 hs with rfl|hs
  ·exact a2a h.1
  ·exact a2a (List.all_eq_true.1 h.2 s hs)
theorem VY{c:aP}(h:ov c=true):c.a7=1∧yN c.J=true:=by
 unfold ov at h;by_cases h1:c.a7=1
 ·refine⟨h1,?_⟩
  revert h;rw[h1]
  cases dq c<;>cases(ln c.J==0)<;>intro h<;>first|exact h|exact Bool.noConfusion h
 ·rw[bM.2 h1]at h;exact Bool.noConfusion h
theorem a2c{c:aP}(h:ov c=true):pf c=cond (c.J.any n4) 1 0:=by
 obtain⟨h1,h2⟩:=VY h;rw[Eo,h1,Mf,VX pf n4 c.J λx hx=>by
  obtain⟨g1,g2⟩:=a2b h2 x hx;rw[Eo,g1,vh];unfold n4;rcases g2 with g|g|g<;>rw[g]<;>rfl]
 show max 0 _=_;rw[Nat.zero_max]
theorem a2d{c:aP}(h:ask c=true):(c.a7=3∧(ln c.J==1)=true∧ov (gi c.J (0:Int))=true)∨(c.a7=1∧ov c=true):=by
 unfold ask at h;by_cases h3:c.a7=3
 ·refine Or.inl ⟨h3,?_⟩
  revert h;rw[h3]
  cases dq c<;>cases(ln c.J==1)<;>cases ov (gi c.J (0:Int))<;>intro h<;>first|exact⟨rfl,rfl⟩|exact Bool.noConfusion h
 ·rw[bM.2 h3]at h;exact Or.inr ⟨(VY h).1,h⟩
theorem Mg{l:List aP}(h:(ln l==1)=true):l=[gi l (0:Int)]:=by
 have h2:=eq_of_beq h
 match l,h2 with
 |[x],_=>rfl
theorem afn{c:aP}(h:ask c=true):pf c=cond ((yO c).J.any n4) 1 0:=by
 rcases a2d h with⟨h3,h1,hq⟩|⟨h1,hq⟩
 ·have e:vh c.J=pf (gi c.J (0:Int)):=by rw[Mg h1,vh,vh,Nat.max_zero];rfl
  rw[Eo,h3,e,a2c hq];unfold yO;rw[h3,h1];show max 0 _=_;rw[Nat.zero_max];rfl
 ·rw[a2c hq];unfold yO;rw[h1];rfl
theorem a2e{c:aP}(h:mz c=true):(c.a7=1∧c.J=[])∨(c.a7=2∧∀x∈c.J,ask x=true):=by
 unfold mz at h;by_cases h1:c.a7=1
 ·refine Or.inl ⟨h1,?_⟩;rw[h1]at h;have h0:(ln c.J==0)=true:=by revert h;cases dq c<;>cases(ln c.J==0)<;>intro h<;>first|rfl|exact Bool.noConfusion h
  rw[sE]at h0;exact u4 (jH h0)
 ·rw[bM.2 h1]at h;by_cases h2:c.a7=2
  ·refine Or.inr ⟨h2,?_⟩;rw[h2]at h;have h0:(c.J.any λx=>!(ask x))=false:=by
    revert h;cases dq c<;>cases decide (ln c.J<1)<;>cases decide (64<ln c.J)<;>cases(c.J.any λx=>!(ask x))<;>intro h<;>first|rfl|exact Bool.noConfusion h
   intro x hx;have:=List.any_eq_false.1 h0 x hx;cases hk:ask x
   ·rw[hk]at this;exact absurd rfl this
   ·rfl
  ·rw[bM.2 h2]at h
   revert h;cases dq c<;>exact Bool.noConfusion
theorem afo{c:aP}(h:mz c=true):pf c=cond (ck c) 1 0:=by
 unfold ck;rcases a2e h with⟨h1,h2⟩|⟨h1,h2⟩
 ·rw[Eo,h1,h2,vh];rfl
 ·rw[Eo,h1,Mf,VX pf (λx=>(yO x).J.any n4) c.J λx hx=>afn (h2 x hx)];show max 0 _=_;rw[Nat.zero_max]
theorem a2f{c:aP}(h:nV c=true):ck c=false:=by
 unfold nV at h;have h0:(ln c.J==0)=true:=by revert h;cases(c.a7==0)<;>cases dq c<;>cases(ln c.J==0)<;>intro h<;>first|rfl|exact Bool.noConfusion h
 rw[sE]at h0;unfold ck;rw[u4 (jH h0)];rfl
mutual
def pL:aP→Bool
 | .mk K _ _ D l=>cond (K==7) (!(ke D)) (cond (K==3) (cond (ln l==1) (qB l) false) (cond (cond (K==1) true (K==2)) (qB l) (cond (cond (cond (cond (K==4) true (K==5)) true (K==6)) true (K==8)) (ln l==0) false)))
def qB:List aP→Bool
 |[]=>true
 |v::r=>pL v&&qB r
end
theorem xd(c:aP):pL c=cond (c.a7==7) (!(ke c.aA)) (cond (c.a7==3) (cond (ln c.J==1) (qB c.J) false) (cond (cond (c.a7==1) true (c.a7==2)) (qB c.J) (cond (cond (cond (cond (c.a7==4) true (c.a7==5)) true (c.a7==6)) true (c.a7==8)) (ln c.J==0) false))):=by obtain⟨a,b,d,e,l⟩:=c;rw[pL];rfl
theorem HS:∀{l:List aP},(∀x∈l,pL x=true)→qB l=true
 |[],_=>by rw[qB]
 |v::r,h=>by rw[qB,h v List.mem_cons_self,HS λx hx=>h x (List.mem_cons_of_mem _ hx)];rfl
theorem PN:∀{l:List aP},qB l=true→∀x∈l,pL x=true
 |v::r,h,x,hx=>by
  rw[qB,Bool.and_eq_true_iff]at h;rcases List.mem_cons.1 hx with rfl|hx
  ·exact h.1
  ·exact PN h.2 x hx
theorem a2g:∀{l:List aP},kN l=true→∀x∈l,mA x=true
 |v::r,h,x,hx=>by
  rw[kN,Bool.and_eq_true_iff]at h;rcases List.mem_cons.1 hx with rfl|hx
  ·exact h.1
  ·exact a2g h.2 x hx
theorem a2h(n:Nat):∀c:aP,zC c≤n→mA c=true→pL c=true:=by
 induction n using Nat.strongRecOn with
 |_ n ih=>
  intro c h hs;have hz:=jA c;have hl:kN c.J=true→qB c.J=true:=λg=>HS λx hx=>ih (zC x) (by have:=mC hx;omega) x (dz _) (a2g g x hx);rw[PL]at hs;rw[xd]
  revert hs hl
  by_cases h7:c.a7=7
  ·rw[h7];cases(c.aO==[])<;>cases(c.bj==0)<;>cases(ln c.J==0)<;>cases ke c.aA<;>intro hs hl<;>first|rfl|exact Bool.noConfusion hs
  ·rw[bM.2 h7];by_cases h8:c.a7=8
   ·rw[h8];cases(dq c)<;>cases(ln c.J==0)<;>intro hs hl<;>first|rfl|exact Bool.noConfusion hs
   ·rw[bM.2 h8];cases(c.a7==3)<;>cases(c.a7==1)<;>cases(c.a7==2)<;>cases dq c<;>cases(ln c.J==1)<;>cases decide (ln c.J<2)<;>intro hs hl<;>first|exact hl hs|exact Bool.noConfusion hs
theorem afp{s:aP}(h:s.J=[]∧(s.a7=4∨s.a7=5∨s.a7=6)):pL s=true:=by
 rw[xd,h.1];rcases h.2 with g|g|g<;>rw[g]<;>rfl
theorem a2i{c:aP}(h:ov c=true):pL c=true:=by
 obtain⟨h1,h2⟩:=VY h;rw[xd,h1];exact HS λx hx=>afp (a2b h2 x hx)
theorem afq{c:aP}(h:ask c=true):pL c=true:=by
 rcases a2d h with⟨h3,h1,hq⟩|⟨h1,hq⟩
 ·rw[xd,h3,h1];show qB c.J=true;rw[Mg h1];exact HS λx hx=>by rw[List.mem_singleton.1 hx];exact a2i hq
 ·exact a2i hq
theorem afr{c:aP}(h:mz c=true):pL c=true:=by
 rcases a2e h with⟨h1,h2⟩|⟨h1,h2⟩
 ·rw[xd,h1,h2];exact HS λx hx=>by cases hx
 ·rw[xd,h1];exact HS λx hx=>afq (h2 x hx)
mutual
def dM:aP→List cy
 | .mk K _ _ D l=>cond (K==7) [D] (jB l)
def jB:List aP→List cy
 |[]=>[]
 |v::r=>dM v++jB r
end
theorem Ep(c:aP):dM c=cond (c.a7==7) [c.aA] (jB c.J):=by obtain⟨a,b,d,e,l⟩:=c;rw[dM];rfl
theorem a2j(n:Nat):∀c:aP,zC c≤n→(dM c).length≤zC c∧∀d∈dM c,zD d≤zC c:=by
 induction n using Nat.strongRecOn with
 |_ n ih=>
  intro c h;have hz:=jA c;have hD:=rz c.aA;have hl:∀l:List aP,(∀x∈l,zC x<n)→(jB l).length≤zL zC l∧∀d∈jB l,zD d≤zL zC l:=by
   intro l
   induction l with
   |nil=>intro _;rw[jB];exact⟨fT _,λd hd=>by cases hd⟩
   |cons v r yF=>
    intro hm;have h1:=ih (zC v) (hm v List.mem_cons_self) v (dz _);have h2:=yF λx hx=>hm x (List.mem_cons_of_mem _ hx);rw[jB,zL,ee];refine⟨by omega,λd hd=>?_⟩;rcases List.mem_append.1 hd with hd|hd
    ·have:=h1.2 d hd;omega
    ·have:=h2.2 d hd;omega
  have hl:=hl c.J (λx hx=>by have:=mC hx;omega);rw[←LY]at hl;rw[Ep];cases(c.a7==7)
  ·refine⟨by have:=hl.1;rw[aG];omega,λd hd=>by have:=hl.2 d hd;omega⟩
  ·refine⟨by rw[aB,List.length_singleton];omega,λd hd=>?_⟩;rw[List.mem_singleton.1 hd];omega
theorem a2k(l:List aP):(jB l).length≤pc l:=by
 induction l with
 |nil=>exact fT _
 |cons v r ih=>
  have:=(a2j _ v (dz _)).1;rw[jB,pc,ee];omega
theorem PO{l:List aP}{i:Nat}(h:i<l.length):jB (l.drop i)=dM (gi l (i:Int))++jB (l.drop (i+1)):=by
 rw[fv h,jB,←fh l i h]
theorem a2l{β:Type}(F:Nat→List β→Int→Option (List β))(l:List aP)(f:aP→List β)(g:List aP→List β)(hg0:g []=[])(hg:∀v r,g (v::r)=f v++g r)
  (hF:∀(kk i:Nat)(a:List β),i<l.length→gi l (i:Int)∈l→a.length+(g (l.drop i)).length≤1048576→F (kk+1) a (i:Int)=F kk (a++f (gi l (i:Int))) ((i+1:Nat):Int))(hE:∀kk (i:Nat)(a:List β),l.length≤i→F (kk+1) a (i:Int)=some a):
  ∀(kk i:Nat)(a:List β),l.length-i<kk→a.length+(g (l.drop i)).length≤1048576→F kk a (i:Int)=some (a++g (l.drop i)):=by
 intro kk
 induction kk with
 |zero=>intro i a h;omega
 |succ kk ih=>
  intro i a h ha;by_cases h1:i<l.length
  ·have e:g (l.drop i)=f (gi l (i:Int))++g (l.drop (i+1)):=by rw[fv h1,hg,←fh l i h1]
   rw[hF kk i a h1 (fY h1) ha,ih (i+1) _ (by omega) (by rw[e,ee]at ha;rw[ee];omega),e,mG]
  ·rw[hE kk i a (by omega),gR (by omega),hg0,List.append_nil]
theorem VZ:∀(k:Nat)(c:aP),zC c<k→zC c≤1048576→AW FU k c=some (dM c):=by
 intro k
 induction k with
 |zero=>intro c h;omega
 |succ k ih=>
  intro c hk hb;have hz:=jA c;have hl:=nC c.J;have hd:=a2k c.J;have a:=a2l (DW FU c (AW FU k)) c.J dM jB rfl (λv r=>by rw[jB]) (λkk i a hi hm ha=>by
   have h1:=mC hm;rw[PO hi,ee]at ha;rw[DW,ct hi,aB,bR hi,ih _ (by omega) (by omega),aF,bz (by unfold ln;omega),bG (by omega)];rfl) (λkk i a hi=>by rw[DW,cq hi];rfl) FU 0 [] (by unfold FU;omega) (by rw[du,dn];omega)
  rw[du,List.nil_append]at a;rw[AW,show DW FU c (AW FU k) FU [] 0=_ from a,Ep];cases(c.a7==7)<;>rfl
theorem afs(v:List aj)(i:Nat)(h:i<v.length):pP v (i:Int) (aj.mk (gi v (i:Int)).ay (gi v (i:Int)).J)=v:=by
 have e:aj.mk (gi v (i:Int)).ay (gi v (i:Int)).J=v[i]:=by
  rw[fh v i h];obtain⟨t,l⟩:=v[i];rfl
 rw[e];unfold pP;rw[show((i:Int)).toNat=i from Int.toNat_natCast i,List.set_getElem_self]
theorem aft:∀(k:Nat)(v:List aj),cj v<k→cj v≤1048576→A4 FU k v=some v:=by
 intro k
 induction k with
 |zero=>intro v h;omega
 |succ k ih=>
  intro v h hb;have hl:=jz v;have H:∀(kk i:Nat),v.length-i<kk→FI FU v (A4 FU k) kk v (i:Int)=some v:=by
   intro kk
   induction kk with
   |zero=>intro i h;omega
   |succ kk oH=>
    intro i h;rw[FI];by_cases h1:i<v.length
    ·have h3:=kM (fY h1);have h4:=lB (gi v (i:Int));rw[ct h1,aB,bR h1,ih _ (by omega) (by omega),aF,lt_eq,afs v i h1,bG (by omega),oH (i+1) (by omega)]
    ·rw[cq (by omega)];rfl
  rw[A4];unfold NK;rw[bz (by unfold ln;rw[dn];omega),lt_eq,aF];show Option.bind (FI FU v (A4 FU k) FU v ((0:Nat):Int)) _=_;rw[H FU 0 (by unfold FU;omega)];rfl
theorem afu(v:List aj)(hb:cj v≤1048576)(hc:gN v=0)(hs:cond (decide (0<ln v)) (cond (pe v) true (pI v)) false=false):JP FU v=some (v,0):=by
 have hl:=jz v;unfold JP;rw[Pl FU (by decide) v hb,hc];have e1:FJ FU v FU 0=some 0:=by
  show FJ FU v (1099999+1) 0=_;rw[FJ];cases h0:decide (0<ln v)
  ·rfl
  ·rw[h0]at hs;have h1:=jH h0;have:pe v=false:=by revert hs;cases pe v<;>intro hs<;>first|rfl|exact Bool.noConfusion hs
   unfold FG;rw[bz ⟨Int.le_refl _,h1⟩];unfold pe at this;rw[this];rfl
 have e2:CH FU v 0 FU (ln v)=some (ln v):=by
  show CH FU v 0 (1099999+1) (ln v)=_;rw[CH];cases h0:decide (0<ln v)
  ·rfl
  ·rw[h0]at hs;have h1:=jH h0;have:pI v=false:=by revert hs;cases pe v<;>cases pI v<;>intro hs<;>first|rfl|exact Bool.noConfusion hs
   unfold FG;rw[bz (PI (by unfold ln at h1;omega) (by omega))];unfold pI at this;rw[this];rfl
 rw[e1];show Option.bind (CH FU v 0 FU (ln v)) _=_;rw[e2];show au (0≤(0:Int)∧(0:Int)≤ln v∧ln v≤ln v) (Option.bind (NM FU (eY v 0 (ln v))) _)=_;rw[bz ⟨Int.le_refl _,by unfold ln;omega,Int.le_refl _⟩];have e3:eY v 0 (ln v)=v:=by
  unfold eY ln;rw[show((0:Int)).toNat=0 from rfl,Int.toNat_natCast,du,Nat.sub_zero,List.take_length]
 rw[e3,show NM FU v=_ from aft FU v (by unfold FU;omega) hb];rfl
theorem W0{d:cy}(hd:ke d=false):gN d.Value=0∧cond (decide (0<ln d.Value)) (cond (pe d.Value) true (pI d.Value)) false=false:=by
 unfold ke at hd;simp only[sJ]at hd;refine⟨?_,hd.2.2.2.2.2.2⟩;have:=hd.2.1;by_cases hc:gN d.Value=0
 ·exact hc
 ·rw[bne_iff_ne.2 hc]at this;exact Bool.noConfusion this
theorem W1{c:aP}(h:pL c=true)(h7:c.a7≠7):qB c.J=true:=by
 rw[xd,bM.2 h7]at h;have l0:(ln c.J==0)=true→qB c.J=true:=λg=>by
  rw[sE]at g;rw[u4 (jH g),qB]
 revert h l0
 cases(c.a7==3)<;>cases(c.a7==1)<;>cases(c.a7==2)<;>cases(c.a7==4)<;>cases(c.a7==5)<;>cases(c.a7==6)<;>cases(c.a7==8)<;>cases(ln c.J==1)<;>intro h l0<;>first|exact h|exact l0 h|exact Bool.noConfusion h
theorem a2m:∀(k:Nat)(c:aP),zC c<k→zC c≤1048576→pL c=true→A6 FU k c=some (dM c):=by
 intro k
 induction k with
 |zero=>intro c h;omega
 |succ k ih=>
  intro c hk hb hv;have hz:=jA c;have hD:=rz c.aA;have hl:=nC c.J;have hd:=a2k c.J;rw[A6,Ep];by_cases h7:c.a7=7
  ·rw[xd]at hv;rw[h7]at hv⊢;have hb:ke c.aA=false:=by revert hv;cases ke c.aA<;>intro hv<;>first|rfl|exact Bool.noConfusion hv
   obtain⟨g1,g2⟩:=W0 hb;rw[afu _ (by omega) g1 g2];rfl
  ·have HT:=PN (W1 hv h7);have a:=a2l (CI FU c (A6 FU k)) c.J dM jB rfl (λv r=>by rw[jB]) (λkk i a hi hm ha=>by
    have h1:=mC hm;rw[PO hi,ee]at ha;rw[CI,ct hi,aB,bR hi,ih _ (by omega) (by omega) (HT _ hm),aF,bz (by unfold ln;omega),bG (by omega)];rfl) (λkk i a hi=>by rw[CI,cq hi];rfl) FU 0 [] (by unfold FU;omega) (by rw[du,dn];omega)
   rw[du,List.nil_append]at a;rw[show CI FU c (A6 FU k) FU [] 0=_ from a,bM.2 h7];rfl
def W2(s:ag):Bool:=cond (s==[97,108,108]) true (s==[115,99,114,101,101,110])
mutual
def tH(w:Int):aP→List Bool→Bool
 | .mk K N M D l,ys=>cond (K==4) (W2 N) (cond (K==5) (decide (M≤w)) (cond (K==6) (decide (w≤M)) (cond (K==7) (gi ys (0:Int)) (cond (K==8) false (cond (K==1) (yP w l ys) (cond (K==2) (qC w l ys) (!(qC w l ys))))))))
def yP(w:Int):List aP→List Bool→Bool
 |[],_=>true
 |v::r,ys=>tH w v (ys.take (dM v).length)&&yP w r (ys.drop (dM v).length)
def qC(w:Int):List aP→List Bool→Bool
 |[],_=>false
 |v::r,ys=>tH w v (ys.take (dM v).length)||qC w r (ys.drop (dM v).length)
end
theorem a2n(w:Int)(c:aP)(ys:List Bool):tH w c ys=cond (c.a7==4) (W2 c.aO) (cond (c.a7==5) (decide (c.bj≤w)) (cond (c.a7==6) (decide (w≤c.bj)) (cond (c.a7==7) (gi ys (0:Int)) (cond (c.a7==8) false (cond (c.a7==1) (yP w c.J ys) (cond (c.a7==2) (qC w c.J ys) (!(qC w c.J ys)))))))):=by obtain⟨a,b,d,e,l⟩:=c;rw[tH];rfl
def cut(bZ:List Bool)(n m:Nat):List Bool:=(bZ.drop n).take m
theorem afv(bZ:List Bool)(n a b:Nat):(cut bZ n (a+b)).take a=cut bZ n a:=by unfold cut;rw[List.take_take,Nat.min_eq_left (by omega)]
theorem afw(bZ:List Bool)(n a b:Nat):(cut bZ n (a+b)).drop a=cut bZ (n+a) b:=by
 unfold cut;rw[List.drop_take,List.drop_drop,Nat.add_sub_cancel_left]
theorem afx(w:Int)(bZ:List Bool)(hy:bZ.length≤1048576):∀(k:Nat)(c:aP)(n:Nat),zC c<k→zC c≤1048576→pL c=true→n+(dM c).length≤bZ.length→
  Au FU k c w (n:Int) bZ=some (tH w c (cut bZ n (dM c).length),((n+(dM c).length:Nat):Int)):=by
 intro k
 induction k with
 |zero=>intro c n h;omega
 |succ k ih=>
  intro c n hk hb hv hn;have hz:=jA c;have hl:=nC c.J;rw[Au,a2n];by_cases h7:c.a7=7
  ·have e:dM c=[c.aA]:=by rw[Ep,h7];rfl
   rw[e,List.length_singleton]at hn;rw[e,h7];unfold OB;rw[bG (by omega),show a8 (((n+1:Nat):Int)-1)=(n:Int) by rw[o5 (by omega) (by omega)];omega,bR (by omega)];have e2:gi (cut bZ n 1) (0:Int)=gi bZ (n:Int):=by
    rw[fh bZ n (by omega)];unfold cut;rw[fv (show n<bZ.length by omega)];rfl
   show some (gi bZ (n:Int),((n+1:Nat):Int))=some (gi (cut bZ n 1) (0:Int),((n+1:Nat):Int));rw[e2]
  ·have e:dM c=jB c.J:=by rw[Ep,bM.2 h7];rfl
   have HT:=PN (W1 hv h7);rw[e]at hn;have H:∀(kk i n:Nat)(p q:Bool),c.J.length-i<kk→i≤c.J.length→n+(jB (c.J.drop i)).length≤bZ.length→
     Gt FU c w bZ (Au FU k) kk p q (i:Int) (n:Int)=some (p&&yP w (c.J.drop i) (cut bZ n (jB (c.J.drop i)).length),q||qC w (c.J.drop i) (cut bZ n (jB (c.J.drop i)).length),((n+(jB (c.J.drop i)).length:Nat):Int)):=by
    intro kk
    induction kk with
    |zero=>intro i n p q h;omega
    |succ kk oH=>
     intro i n p q h hi hn;rw[Gt];by_cases h1:i<c.J.length
     ·have hm:=fY h1;have hx:=mC hm;have e3:=PO h1;rw[e3,ee]at hn⊢;have e4:c.J.drop i=gi c.J (i:Int)::c.J.drop (i+1):=by rw[fv h1,←fh _ i h1]
      rw[ct h1,aB,bR h1,ih _ n (by omega) (by omega) (HT _ hm) (by omega),aF,bG (by omega),oH (i+1) _ _ _ (by omega) (by omega) (by omega),e4,yP,qC,afv,afw,←Nat.add_assoc];cases p<;>cases q<;>cases tH w (gi c.J (i:Int)) (cut bZ n (dM (gi c.J (i:Int))).length)<;>rfl
     ·rw[cq (by omega),gR (by omega),yP,qC];cases p<;>cases q<;>rfl
   have a:=H FU 0 n true false (by unfold FU;omega) (fT _) (by rw[du];exact hn);rw[du]at a;rw[e,show Gt FU c w bZ (Au FU k) FU true false 0 (n:Int)=_ from a];rw[xd,bM.2 h7]at hv;have l0:(ln c.J==0)=true→jB c.J=[]:=λg=>by
    rw[sE]at g;rw[u4 (jH g),jB]
   rw[bM.2 h7];by_cases h4:c.a7=4
   ·rw[h4]at hv⊢;rw[l0 hv];rfl
   ·rw[bM.2 h4]at hv⊢;by_cases h5:c.a7=5
    ·rw[h5]at hv⊢;rw[l0 hv];rfl
    ·rw[bM.2 h5]at hv⊢;by_cases h6:c.a7=6
     ·rw[h6]at hv⊢;rw[l0 hv];rfl
     ·rw[bM.2 h6]at hv⊢;by_cases h8:c.a7=8
      ·rw[h8]at hv⊢;rw[l0 hv];rfl
      ·rw[bM.2 h8];cases(c.a7==1)<;>cases(c.a7==2)<;>simp only[aB,aG,aF,kR,o7]
theorem afy(l:List Bool)(n:Nat)(h:n≤l.length):eY l 0 (n:Int)=l.take n:=by
 unfold eY;rw[show((0:Int)).toNat=0 from rfl,Int.toNat_natCast,du,Nat.sub_zero]
theorem afz(l:List Bool)(n:Nat)(h:n≤l.length):eY l (n:Int) (ln l)=l.drop n:=by
 unfold eY ln;rw[Int.toNat_natCast,Int.toNat_natCast,List.take_of_length_le (by rw[List.length_drop];omega)]
theorem afA(e:jK):∀(k:Nat)(c:aP)(ys:List Bool),zC c<k→zC c≤1048576→pL c=true→ys.length=(dM c).length→
  sw FU k c e ys=some (tH (a8 (1000*e.cz)) c ys):=by
 intro k
 induction k with
 |zero=>intro c ys h;omega
 |succ k ih=>
  intro c ys hk hb hv hn;have hz:=jA c;have hl:=nC c.J;rw[sw,a2n];by_cases h7:c.a7=7
  ·have e:dM c=[c.aA]:=by rw[Ep,h7];rfl
   rw[e,List.length_singleton]at hn;rw[h7,bz ⟨Int.le_refl _,by unfold ln;omega⟩];rfl
  ·have e1:dM c=jB c.J:=by rw[Ep,bM.2 h7];rfl
   have HT:=PN (W1 hv h7);rw[e1]at hn;have H:∀(kk i:Nat)(p:Bool)(ys:List Bool),c.J.length-i<kk→i≤c.J.length→ys.length=(jB (c.J.drop i)).length→
     yC FU c e (sw FU k) kk ys p (i:Int)=some (cond (c.a7==1) (p&&yP (a8 (1000*e.cz)) (c.J.drop i) ys) (p||qC (a8 (1000*e.cz)) (c.J.drop i) ys)):=by
    intro kk
    induction kk with
    |zero=>intro i p ys h;omega
    |succ kk oH=>
     intro i p ys h hi hn;rw[yC];by_cases h1:i<c.J.length
     ·have hm:=fY h1;have hx:=mC hm;have e3:=PO h1;rw[e3,ee]at hn;have e4:c.J.drop i=gi c.J (i:Int)::c.J.drop (i+1):=by rw[fv h1,←fh _ i h1]
      rw[ct h1,aB,bR h1,show DX FU (gi c.J (i:Int))=_ from VZ FU _ (by unfold FU;omega) (by omega),aF,bz ⟨Int.le_refl _,by unfold ln;omega,by unfold ln;omega⟩];simp only[lt_eq];rw[show ln (dM (gi c.J (i:Int)))=(((dM (gi c.J (i:Int))).length:Nat):Int)from rfl,afy _ _ (by omega),afz _ _ (by omega),ih _ _ (by omega) (by omega) (HT _ hm) (by rw[List.length_take];omega),aF,bz ⟨by omega,by unfold ln;omega,Int.le_refl _⟩,bG (by omega),e4,yP,qC];have g:=λp=>oH (i+1) p (ys.drop (dM (gi c.J (i:Int))).length) (by omega) (by omega) (by rw[List.length_drop];omega);cases hk:(c.a7==1)
      ·rw[hk]at g;show yC FU c e (sw FU k) kk _ _ _=_;rw[g];cases p<;>cases tH (a8 (1000*e.cz)) (gi c.J (i:Int)) (ys.take (dM (gi c.J (i:Int))).length)<;>rfl
      ·rw[hk]at g;show yC FU c e (sw FU k) kk _ _ _=_;rw[g];cases p<;>cases tH (a8 (1000*e.cz)) (gi c.J (i:Int)) (ys.take (dM (gi c.J (i:Int))).length)<;>rfl
     ·rw[cq (by omega),gR (by omega),yP,qC];cases p<;>cases(c.a7==1)<;>rfl
   have a:=λp=>H FU 0 p ys (by unfold FU;omega) (fT _) (by rw[du];exact hn);simp only[du]at a;rw[show yC FU c e (sw FU k) FU ys (c.a7==1) 0=_ from a (c.a7==1)];simp only[lt_eq];rw[bM.2 h7];rw[xd,bM.2 h7]at hv;by_cases h3:c.a7=3
   ·rw[h3]at hv⊢;cases h1:(ln c.J==1)
    ·rw[h1]at hv;exact Bool.noConfusion hv
    ·have hm:=(Bk _ h1).2;have hx:=mC hm;have e5:jB c.J=dM (gi c.J (0:Int)):=by rw[Mg h1,jB,jB,List.append_nil];rfl
     have e6:qC (a8 (1000*e.cz)) c.J ys=tH (a8 (1000*e.cz)) (gi c.J (0:Int)) ys:=by
      rw[Mg h1,qC,qC,Bool.or_false];show tH _ (gi c.J (0:Int)) (ys.take (dM (gi c.J (0:Int))).length)=_;rw[List.take_of_length_le (by rw[←e5];omega)];rw[←Mg h1]
     show au (0≤(0:Int)∧(0:Int)<ln c.J) (Option.bind (sw FU k (gi c.J (0:Int)) e ys) λpD=>some (!pD))=some (!(qC (a8 (1000*e.cz)) c.J ys));rw[bz ⟨Int.le_refl _,(Bk _ h1).1⟩,ih _ ys (by omega) (by omega) (HT _ hm) (by rw[hn,e5]),e6];rfl
   ·rw[bM.2 h3]at hv⊢
    revert hv
    by_cases h1:c.a7=1
    ·rw[h1];intro hv;rfl
    ·rw[bM.2 h1];by_cases h2:c.a7=2
     ·rw[h2];intro hv;rfl
     ·rw[bM.2 h2];unfold W2;cases(c.a7==4)<;>cases(c.a7==5)<;>cases(c.a7==6)<;>cases(c.a7==8)<;>intro hv<;>first|rfl|exact Bool.noConfusion hv
theorem PP{α:Type}(l:List α):decide (0<ln l)=!(ln l==0):=by
 cases l with
 |nil=>rfl
 |cons y r=>rw[bM.2 (by unfold ln;rw[cN];omega),cB (by unfold ln;rw[cN];omega)];rfl
theorem a2o{α β:Type}(a:List α)(b:List β)(ha:a.length≤1048576)(hb:b.length≤1048576):decide (0<a8 (ln a+ln b))=!(cond (ln a==0) (ln b==0) false):=by
 have e:a8 (ln a+ln b)=((a.length+b.length:Nat):Int):=HO _ _ (by omega);rw[e,sE,sE];by_cases h1:a.length=0
 ·by_cases h2:b.length=0
  ·rw[cB h1,cB h2,cv (by omega)];rfl
  ·rw[cB h1,cv h2,cB (by omega)];rfl
 ·rw[cv h1,cB (by omega)];rfl
def Mh(l:List ag):Bool:=cond (cond (decide (ln l<1)) true (decide (16<ln l))) false (!(l.any λx=>!(mh x)))
theorem afB(l:List ag)(hb:zNm l≤1048576):J1 FU l=some (Mh l):=by
 have hl:=a1p l;have a:J0 FU l=some (l.any λx=>!(mh x)):=by
  unfold J0 N7;refine Bd (F8 FU l) l _ (by omega) (λkk i hi hm=>?_) (λkk i hi=>by rw[F8,cq hi];rfl);rw[F8,ct hi,aB,bR hi,bG (by omega),aeq]
 unfold J1 Mh;rw[a];simp only[lt_eq];have e1:decide (ln l<1)=!(decide (0<ln l)):=by
  by_cases h:0<ln l
  ·rw[cB h,cv (by omega)];rfl
  ·rw[cv h,cB (by omega)];rfl
 have e2:decide (16<ln l)=!(decide (ln l≤16)):=by
  by_cases h:ln l≤16
  ·rw[cB h,cv (by omega)];rfl
  ·rw[cv h,cB (by omega)];rfl
 rw[e1,e2];cases decide (0<ln l)<;>cases decide (ln l≤16)<;>cases(l.any λx=>!(mh x))<;>rfl
theorem afC(l:List ag)(hb:zNm l≤1048576):L2 FU l=some (Mh l):=by
 have hl:=a1p l;have a:DM FU l FU 0=cond (l.any λx=>!(mh x)) (some (.inl false)) (some (.inr ())):=
  pd (DM FU l) l _ _ _ (by omega) (λkk i hi hm=>by
   have:=aea hm;rw[DM,ct hi,aB,bR hi,bG (by omega),VG _ (by omega)];rfl) (λkk i hi=>by rw[DM,cq hi];rfl)
 unfold L2 Mh;rw[a];simp only[lt_eq];cases decide (ln l<1)<;>cases decide (16<ln l)<;>cases(l.any λx=>!(mh x))<;>rfl
def nb(l:List (List ag)):Bool:=l.any λx=>!(Mh x)
theorem afD(l:List (List ag))(hb:ve l≤1048576):J2 FU l=some (nb l):=by
 have hl:=nN l;unfold J2 N9;refine Bd (F9 FU l) l _ (by omega) (λkk i hi hm=>?_) (λkk i hi=>by rw[F9,cq hi];rfl);have:=mN hm;rw[F9,ct hi,aB,bR hi,bG (by omega)];unfold N8;rw[afB _ (by omega)];rfl
def rD(d:cy):Nat:=cond (gN d.Value==0) (fI d.Value) 0
def vi(d:cy):Nat:=fI d.Value
def xe(s:List bo)(d:List cy):Bool:=cond (ln s==0) (ln d==0) false
def HU(K:Int)(s:List bo)(d:List cy)(c:aP)(n:List (List ag))(r:List bJ):Bool:=
 cond (K==1) (Bj s||(decide (32<ln d)||(!(nV c)||(!(cond (ln n==0) (ln r==0) false)||d.any ke))))
 (cond (K==2) (!(xe s d)||(!(ln n==0)||!(mz c)))
 (cond (K==3) (!(xe s d)||(!(ln n==0)||!(sup c)))
 (cond (K==4) (!(xe s d)||(!(nV c)||decide (1<ln n)))
 (cond (K==5) (!(xe s d)||(!(nV c)||(decide (ln n<1)||(decide (64<ln n)||!(ln r==0))))) true))))
mutual
def bS:bJ→Bool
 | .mk K s d c n r=>(ng r||nb n)||HU K s d c n r
def ng:List bJ→Bool
 |[]=>false
 |v::r=>bS v||ng r
end
mutual
def dS:bJ→Nat
 | .mk K s d c n r=>cond (K==1) (max (1+max (iI r) (mL rD d)) (mL nU s)) (cond (K==2) (max (1+iI r) (pf c)) (cond (K==3) (max (1+iI r) (tG c)) (cond (K==5) 0 (1+iI r))))
def iI:List bJ→Nat
 |[]=>0
 |v::r=>max (dS v) (iI r)
end
mutual
def dR:bJ→Nat
 | .mk K s d c n r=>cond (K==5) 0 (max (max (1+max (nW r) (mL vi d)) (mL nU s)) (cond (K==3) (iH c) (cond (ck c) 1 0)))
def nW:List bJ→Nat
 |[]=>0
 |v::r=>max (dR v) (nW r)
end
mutual
def yQ:bJ→Nat
 | .mk _ _ _ _ _ r=>1+j3 r
def j3:List bJ→Nat
 |[]=>0
 |v::r=>yQ v+j3 r
end
theorem PQ(v:bJ):bS v=((ng v.bh||nb v.bX)||HU v.a7 v.cK v.bE v.aM v.bX v.bh):=by obtain⟨a,b,c,d,e,f⟩:=v;rw[bS];rfl
theorem W3(v:bJ):dS v=cond (v.a7==1) (max (1+max (iI v.bh) (mL rD v.bE)) (mL nU v.cK)) (cond (v.a7==2) (max (1+iI v.bh) (pf v.aM)) (cond (v.a7==3) (max (1+iI v.bh) (tG v.aM)) (cond (v.a7==5) 0 (1+iI v.bh)))):=by obtain⟨a,b,c,d,e,f⟩:=v;rw[dS];rfl
theorem W4(v:bJ):dR v=cond (v.a7==5) 0 (max (max (1+max (nW v.bh) (mL vi v.bE)) (mL nU v.cK)) (cond (v.a7==3) (iH v.aM) (cond (ck v.aM) 1 0))):=by obtain⟨a,b,c,d,e,f⟩:=v;rw[dR];rfl
theorem PR(v:bJ):yQ v=1+j3 v.bh:=by obtain⟨a,b,c,d,e,f⟩:=v;rw[yQ];rfl
theorem HV:∀l,ng l=l.any bS
 |[]=>by rw[ng];rfl
 |v::r=>by rw[ng,HV r];rfl
theorem HW:∀l,iI l=mL dS l
 |[]=>by rw[iI,mL]
 |v::r=>by rw[iI,mL,HW r]
theorem HX:∀l,nW l=mL dR l
 |[]=>by rw[nW,mL]
 |v::r=>by rw[nW,mL,HX r]
theorem HY:∀l,j3 l=zL yQ l
 |[]=>by rw[j3,zL]
 |v::r=>by rw[j3,zL,HY r]
theorem PS(d:cy):fI d.Value≤zD d∧rD d≤zD d:=by
 have h:=(wV _ d.Value (dz _)).2;have hz:=rz d;refine⟨by omega,?_⟩;unfold rD;cases(gN d.Value==0)
 ·exact fT _
 ·rw[aB];omega
theorem afE(n:Nat):∀c:aP,zC c≤n→pf c≤1:=by
 induction n using Nat.strongRecOn with
 |_ n ih=>
  intro c h;have hz:=jA c;rw[Eo,Mf];refine Nat.max_le.2 ⟨by cases(cond (c.a7==5) true (c.a7==6))<;>decide,qy λx hx=>ih (zC x) (by have:=mC hx;omega) x (dz _)⟩
theorem W5(n:Nat):∀v:bJ,zR v≤n→yQ v≤zR v∧dS v+1≤zR v∧dR v+1≤zR v:=by
 induction n using Nat.strongRecOn with
 |_ n ih=>
  intro v h;have hz:=wZ v;have h1:j3 v.bh≤gO v.bh:=by rw[HY,LZ];exact Ei λx hx=>(ih (zR x) (by have:=mR hx;omega) x (dz _)).1
  have h2:iI v.bh≤gO v.bh:=by rw[HW];exact qy λx hx=>by have:=mR hx;have:=(ih (zR x) (by omega) x (dz _)).2.1;omega
  have h3:nW v.bh≤gO v.bh:=by rw[HX];exact qy λx hx=>by have:=mR hx;have:=(ih (zR x) (by omega) x (dz _)).2.2;omega
  have h4:mL rD v.bE≤nT v.bE:=qy λd hd=>by have:=mD hd;have:=PS d;omega
  have h5:mL vi v.bE≤nT v.bE:=qy λd hd=>by have:=mD hd;have:=(PS d).1;unfold vi;omega
  have h6:=VP _ v.cK (dz _);have h7:=Me _ v.aM (dz _);have h8:=afE _ v.aM (dz _);rw[PR,W3,W4];refine⟨by omega,?_,?_⟩
  ·cases(v.a7==1)<;>cases(v.a7==2)<;>cases(v.a7==3)<;>cases(v.a7==5)<;>simp only[aB,aG]<;>omega
  ·cases(v.a7==5)<;>cases(v.a7==3)<;>cases ck v.aM<;>simp only[aB,aG]<;>omega
theorem HZ(l:List bJ):j3 l≤gO l∧iI l≤gO l∧nW l≤gO l:=by
 refine⟨?_,?_,?_⟩
 ·rw[HY,LZ];exact Ei λx hx=>(W5 _ x (dz _)).1
 ·rw[HW];exact qy λx hx=>by have:=mR hx;have:=(W5 _ x (dz _)).2.1;omega
 ·rw[HX];exact qy λx hx=>by have:=mR hx;have:=(W5 _ x (dz _)).2.2;omega
theorem a2p{α:Type}{f:α→Nat}{l:List α}(h:(ln l==0)=true):mL f l=0:=by
 rw[sE]at h;rw[u4 (jH h)];rfl
theorem PT{α:Type}{f g:α→Nat}:∀{l:List α},(∀x∈l,f x=g x)→mL f l=mL g l
 |[],_=>rfl
 |v::r,h=>by rw[mL,mL,h v List.mem_cons_self,PT λx hx=>h x (List.mem_cons_of_mem _ hx)]
theorem W6{α:Type}{t:α→Bool}{l:List α}(h:l.any t=false):∀x∈l,t x=false:=λx hx=>by
 have:=List.any_eq_false.1 h x hx;cases hk:t x
 ·rfl
 ·exact absurd hk this
theorem afF(n:Nat):∀v:bJ,zR v≤n→bS v=false→dS v=dR v:=by
 induction n using Nat.strongRecOn with
 |_ n ih=>
  intro v h hb;have hz:=wZ v;rw[PQ,sJ,sJ]at hb;obtain⟨⟨b1,b2⟩,b3⟩:=hb;have hr:iI v.bh=nW v.bh:=by
   rw[HV]at b1;rw[HW,HX];exact PT λx hx=>ih (zR x) (by have:=mR hx;omega) x (dz _) (W6 b1 x hx)
  unfold HU at b3;rw[W3,W4,hr];have tw:(!(xe v.cK v.bE))=false→mL vi v.bE=0∧mL nU v.cK=0:=λg=>by
   unfold xe at g;cases h1:(ln v.cK==0)<;>rw[h1]at g
   ·exact Bool.noConfusion g
   ·cases h2:(ln v.bE==0)<;>rw[h2]at g
    ·exact Bool.noConfusion g
    ·exact⟨a2p h2,a2p h1⟩
  by_cases k1:v.a7=1
  ·rw[k1]at b3⊢;simp only[show((1:Int)==1)=true from rfl,show((1:Int)==5)=false from rfl,show((1:Int)==3)=false from rfl,aB,aG,sJ]at b3⊢;rw[a2f (by have:=b3.2.2.1;revert this;cases nV v.aM<;>intro h<;>first|rfl|exact Bool.noConfusion h),aG,Nat.max_zero,PT (f:=rD) (g:=vi) λd hd=>by
    have:=W0 (W6 b3.2.2.2.2 d hd);unfold rD vi;rw[this.1];rfl]
  ·rw[bM.2 k1]at b3⊢;by_cases k2:v.a7=2
   ·rw[k2]at b3⊢;simp only[show((2:Int)==2)=true from rfl,show((2:Int)==5)=false from rfl,show((2:Int)==3)=false from rfl,aB,aG,sJ]at b3⊢;obtain⟨t1,t2⟩:=tw b3.1;rw[t1,t2,afo (by have:=b3.2.2;revert this;cases mz v.aM<;>intro h<;>first|rfl|exact Bool.noConfusion h),Nat.max_zero,Nat.max_zero]
   ·rw[bM.2 k2]at b3⊢;by_cases k3:v.a7=3
    ·rw[k3]at b3⊢;simp only[show((3:Int)==3)=true from rfl,show((3:Int)==5)=false from rfl,aB,aG,sJ]at b3⊢;obtain⟨t1,t2⟩:=tw b3.1;have hs:mA v.aM=true:=by
      have:=b3.2.2;unfold sup at this
      revert this
      cases decide (fJ v.aM≤1500)<;>cases decide (iH v.aM≤16)<;>cases mA v.aM<;>intro h<;>first|rfl|exact Bool.noConfusion h
     rw[t1,t2,afj _ v.aM (dz _) hs,Nat.max_zero,Nat.max_zero]
    ·rw[bM.2 k3]at b3⊢;by_cases k5:v.a7=5
     ·rw[k5];rfl
     ·rw[bM.2 k5]at b3⊢;by_cases k4:v.a7=4
      ·rw[k4]at b3;simp only[show((4:Int)==4)=true from rfl,aB,aG,sJ]at b3⊢;obtain⟨t1,t2⟩:=tw b3.1;rw[t1,t2,a2f (by have:=b3.2.1;revert this;cases nV v.aM<;>intro h<;>first|rfl|exact Bool.noConfusion h),aG,Nat.max_zero,Nat.max_zero,Nat.max_zero]
      ·rw[bM.2 k4]at b3;exact Bool.noConfusion b3
theorem W7:∀(k:Nat)(l:List bJ),gO l<k→gO l≤1048576→zt FU k l=some ((j3 l:Nat):Int):=by
 intro k
 induction k with
 |zero=>intro l h;omega
 |succ k ih=>
  intro l hk hb;have hl:=nR l;have hle:=(HZ l).1;have e:l.length+zL (λv:bJ=>j3 v.bh) l=j3 l:=by
   rw[HY];clear hk hb hl hle ih
   induction l with
   |nil=>rfl
   |cons v r ih=>rw[zL,zL,cN,PR];omega
  have a:=PC (C3 FU l (zt FU k)) l (λv:bJ=>j3 v.bh) (by omega) (λkk i a hi hm ha=>by
   have h1:=mR hm;rw[wZ]at h1;have h2:=(HZ (gi l (i:Int)).bh).1;have h3:j3 (gi l (i:Int)).bh≤zL (λv:bJ=>j3 v.bh) (l.drop i):=by rw[fv hi,zL,←fh l i hi];omega
   rw[C3,ct hi,aB,bR hi,ih _ (by omega) (by omega),aF,bG (by omega),HO _ _ (by omega)]) (λkk i a hi=>by rw[C3,cq hi];rfl) FU 0 l.length (by unfold FU;omega) (by rw[du];omega)
  rw[du,e]at a;rw[zt,show C3 FU l (zt FU k) FU (ln l) 0=_ from a];rfl
theorem W8(a b:Nat):xg (a:Int) (b:Int)=((max a b:Nat):Int):=by unfold xg;split<;>omega
theorem afG(l:List bJ)(q:Nat)(hq:nT (gi l (q:Int)).bE≤1048576)(a:Nat):DT FU l (q:Int) FU (a:Int) 0=some ((max a (mL vi (gi l (q:Int)).bE):Nat):Int):=by
 have hl:=nD (gi l (q:Int)).bE;have:=Be (DT FU l (q:Int)) (gi l (q:Int)).bE vi (by omega) (λkk i a hi hm=>by
  have h1:=mD hm;rw[rz]at h1;rw[DT,ct hi,aB,bR hi,show xA FU (gi (gi l (q:Int)).bE (i:Int)).Value=_ from Pj FU (by decide) FU _ (by unfold FU;omega) (by omega),aF,tF,bG (by omega)];rfl) (λkk i a hi=>by rw[DT,cq hi];rfl) FU 0 a (by unfold FU;omega)
 rw[du]at this;exact this
theorem afH:∀(k:Nat)(l:List bJ),gO l<k→gO l≤1048576→AU FU k l=some ((nW l:Nat):Int):=by
 intro k
 induction k with
 |zero=>intro l h;omega
 |succ k ih=>
  intro l hk hb;have hl:=nR l;have a:=Be (DU FU l (AU FU k)) l dR (by omega) (λkk i a hi hm=>by
   have h1:=mR hm;rw[wZ]at h1;have h2:=(HZ (gi l (i:Int)).bh).2.2;have h5:mL vi (gi l (i:Int)).bE≤nT (gi l (i:Int)).bE:=qy λd hd=>by have:=mD hd;have:=(PS d).1;unfold vi;omega
   have e:(cond ((gi l (i:Int)).a7==3) ((iH (gi l (i:Int)).aM:Nat):Int) (cond (ck (gi l (i:Int)).aM) 1 0))=((cond ((gi l (i:Int)).a7==3) (iH (gi l (i:Int)).aM) (cond (ck (gi l (i:Int)).aM) 1 0):Nat):Int):=by
    cases((gi l (i:Int)).a7==3)<;>cases ck (gi l (i:Int)).aM<;>rfl
   rw[DU,ct hi,aB,bR hi,bG (by omega),ih _ (by omega) (by omega),aF,afG l i (by omega),aF,show UE FU (gi l (i:Int)).cK=_ from af6 FU _ (by unfold FU;omega) (by omega),aF,afm _ (by omega),aF,e];simp only[lt_eq];rw[PD _ (by omega),W8,W8,W8,W4];cases((gi l (i:Int)).a7==5)
   ·simp only[aG,aF,Nat.max_assoc]
   ·simp only[aB,aF,Nat.max_zero]) (λkk i a hi=>by rw[DU,cq hi];rfl) FU 0 0 (by unfold FU;omega)
  rw[du,Nat.zero_max,←HX]at a;rw[AU,show DU FU l (AU FU k) FU 0 0=_ from a];rfl
theorem afI:∀(k:Nat)(v:bJ),zR v<k→zR v≤1048576→AO FU k v=some (!(bS v)):=by
 intro k
 induction k with
 |zero=>intro v h;omega
 |succ k ih=>
  intro v hk hb;have hz:=wZ v;have l1:=nD v.bE;have l2:=nN v.bX;have l3:=nR v.bh;obtain⟨es,h8,hes⟩:=af4 v.cK (by omega);have a1:DN FU v FU 0=cond (v.bE.any ke) (some (.inl (.inl false))) (some (.inr ())):=
   pd (DN FU v) v.bE _ _ _ (by omega) (λkk i hi hm=>by
    have:=mD hm;rw[DN,ct hi,aB,bR hi,bG (by omega),a1E _ (by omega),aF];cases ke (gi v.bE (i:Int))<;>rfl) (λkk i hi=>by rw[DN,cq hi];rfl)
  have a2:DO FU v FU 0=cond (nb v.bX) (some (.inl false)) (some (.inr ())):=
   pd (DO FU v) v.bX _ _ _ (by omega) (λkk i hi hm=>by
    have:=mN hm;rw[DO,ct hi,aB,bR hi,bG (by omega),afC _ (by omega)];rfl) (λkk i hi=>by rw[DO,cq hi];rfl)
  have a3:DP FU v (AO FU k) FU 0=cond (v.bh.any bS) (some (.inl false)) (some (.inr ())):=
   pd (DP FU v (AO FU k)) v.bh _ _ _ (by omega) (λkk i hi hm=>by
    have:=mR hm;rw[DP,ct hi,aB,bR hi,bG (by omega),ih _ (by omega) (by omega),aF,Bool.not_not]) (λkk i hi=>by rw[DP,cq hi];rfl)
  rw[AO,a1,a2,a3,h8,a22 _ (by omega),VV _ (by omega),af9,PQ,HV,PP,PP];simp only[lt_eq];rw[aF,hes];unfold HU xe;have nn:(ln v.bX==0)=true→nb v.bX=false:=λh=>by
   rw[sE]at h;rw[u4 (jH h)];rfl
  have nr:(ln v.bh==0)=true→v.bh.any bS=false:=λh=>by
   rw[sE]at h;rw[u4 (jH h)];rfl
  by_cases k1:v.a7=1
  ·rw[k1];cases hn:(ln v.bX==0)
   ·cases Bj v.cK<;>cases decide (32<ln v.bE)<;>cases nV v.aM<;>cases(v.bh.any bS)<;>cases nb v.bX<;>rfl
   ·rw[nn hn];cases hr:(ln v.bh==0)
    ·cases Bj v.cK<;>cases decide (32<ln v.bE)<;>cases nV v.aM<;>cases(v.bh.any bS)<;>rfl
    ·rw[nr hr];cases Bj v.cK<;>cases decide (32<ln v.bE)<;>cases nV v.aM<;>cases(v.bE.any ke)<;>rfl
  ·rw[bM.2 k1];by_cases k2:v.a7=2
   ·rw[k2];cases(ln v.cK==0)<;>cases(ln v.bE==0)<;>cases(ln v.bX==0)<;>cases mz v.aM<;>cases(v.bh.any bS)<;>cases nb v.bX<;>rfl
   ·rw[bM.2 k2];by_cases k3:v.a7=3
    ·rw[k3];cases(ln v.cK==0)<;>cases(ln v.bE==0)<;>cases(ln v.bX==0)<;>cases sup v.aM<;>cases(v.bh.any bS)<;>cases nb v.bX<;>rfl
    ·rw[bM.2 k3];by_cases k4:v.a7=4
     ·rw[k4];cases(ln v.cK==0)<;>cases(ln v.bE==0)<;>cases decide (1<ln v.bX)<;>cases nV v.aM<;>cases(v.bh.any bS)<;>cases nb v.bX<;>rfl
     ·rw[bM.2 k4];by_cases k5:v.a7=5
      ·rw[k5];cases(ln v.cK==0)<;>cases(ln v.bE==0)<;>cases decide (ln v.bX<1)<;>cases decide (64<ln v.bX)<;>cases nV v.aM<;>cases(v.bh.any bS)<;>cases nb v.bX<;>cases(ln v.bh==0)<;>rfl
      ·rw[bM.2 k5];cases(v.bh.any bS)<;>cases nb v.bX<;>rfl
def sF(l:List bJ):Bool:=cond (decide (64<j3 l)) false (cond (ng l) false (decide (nW l≤16)))
theorem a2q(l:List bJ)(hb:gO l≤1048576):Hf FU (qU.mk l)=some (cond (sF l) 0 8):=by
 have hl:=nR l;have a:AV FU l FU 0=cond (l.any bS) (some (.inl false)) (some (.inr ())):=
  pd (AV FU l) l _ _ _ (by omega) (λkk i hi hm=>by
   have:=mR hm;rw[AV,ct hi,aB,bR hi,bG (by omega),show UD FU (gi l (i:Int))=_ from afI FU _ (by unfold FU;omega) (by omega),aF,Bool.not_not]) (λkk i hi=>by rw[AV,cq hi];rfl)
 unfold Hf P2 sF;show Option.bind (Option.bind (zu FU l) _) _=_;rw[show zu FU l=_ from W7 FU l (by unfold FU;omega) hb,aF];have e1:decide ((64:Int)<((j3 l:Nat):Int))=decide (64<j3 l):=by
  by_cases h:64<j3 l
  ·rw[cB h,cB (by omega)]
  ·rw[cv h,cv (by omega)]
 have e2:decide (((nW l:Nat):Int)≤16)=decide (nW l≤16):=by
  by_cases h:nW l≤16
  ·rw[cB h,cB (by omega)]
  ·rw[cv h,cv (by omega)]
 rw[e1,HV];cases decide (64<j3 l)
 ·show Option.bind (Option.bind (AV FU l FU 0) λ(z8:Sum Bool Unit)=>bK z8 λjt=>Option.bind (P1 FU l) λcE=>some (decide (cE≤16))) _=_;rw[a,show P1 FU l=_ from afH FU l (by unfold FU;omega) hb];simp only[aF];rw[e2];cases(l.any bS)<;>cases decide (nW l≤16)<;>rfl
 ·rfl
def W9(m:Nat)(l_:List bJ)(v10:Int)(cE:uf)(fj:Bool)(iL:Int):Option (Int×Bool×Int):=
  cond ((gi l_ v10).a7==1) (
  Option.bind (Na m (gi l_ v10).cK) λjP=>
  Option.bind (cond (cond cE.bad true fj) (some default) (Fk m (gi l_ v10).cK)) λNH=>
  lt (cond (cond cE.bad true fj) true (NH !=0)) λtb=>
  lt (cond tb true (decide (32<ln (gi l_ v10).bE))) λsb=>
  lt (cond sb true (!(oR (gi l_ v10).aM))) λsc=>
  lt (cond sc true (decide (0<a8 (ln (gi l_ v10).bX+ln (gi l_ v10).bh)))) λxX=>
  CC m l_ v10 jP m xX 0 cE.depth) (
  cond ((gi l_ v10).a7==2) (
  Option.bind (Nx m (gi l_ v10).aM) λxY=>
  lt (cond (cond cE.bad true fj) true (decide (0<iL))) λJH=>
  lt (cond JH true (decide (0<ln (gi l_ v10).bX))) λjx=>
  Option.bind (cond jx (some default) (CA m (gi l_ v10).aM)) λxZ=>
  some (xY,cond jx true (xZ !=0),cE.depth)) (
  cond ((gi l_ v10).a7==3) (
  Option.bind (NF m (gi l_ v10).aM) λFC=>
  lt (cond (cond cE.bad true fj) true (decide (0<iL))) λJI=>
  lt (cond JI true (decide (0<ln (gi l_ v10).bX))) λrf=>
  Option.bind (cond rf (some default) (A1 m (gi l_ v10).aM)) λJJ=>
  some (FC,cond rf true (JJ !=0),cE.depth)) (
  cond ((gi l_ v10).a7==4) (
  lt (cond (cond cE.bad true fj) true (decide (0<iL))) λJK=>
  lt (cond JK true (decide (1<ln (gi l_ v10).bX))) λFD=>
  lt (cond FD true (!(oR (gi l_ v10).aM))) λA2=>
  some (0,A2,cE.depth)) (
  cond ((gi l_ v10).a7==5) (
  lt (cond (cond cE.bad true fj) true (decide (0<iL))) λNI=>
  lt (cond NI true (decide (ln (gi l_ v10).bX<1))) λNJ=>
  lt (cond NJ true (decide (64<ln (gi l_ v10).bX))) λJL=>
  lt (cond JL true (decide (0<ln (gi l_ v10).bh))) λFE=>
  lt (cond FE true (!(oR (gi l_ v10).aM))) λuu=>
  some (0,uu,(-1))) (
  some (0,true,cE.depth))))))
def a2r(cE:uf)(v11 v12:Int)(ep:Bool)(kB:Int×Bool×Int):Option (Int×Int×Bool):=
  lt (if(if v12<a8 (kB.2.2+1)then a8 (kB.2.2+1)else v12)<kB.1 then kB.1 else(if v12<a8 (kB.2.2+1)then a8 (kB.2.2+1)else v12)) λCE=>
  some (a8 (v11+a8 (cE.rules+1)),CE,cond ep true kB.2.1)
theorem nh{α β:Type}(e:α)(f:α→β):lt e f=f e:=Eq.trans rfl rfl
theorem afJ(l:List bJ)(q:Nat)(y:Int)(hq:nT (gi l (q:Int)).bE≤1048576):∀(kk i a:Nat)(p:Bool),(gi l (q:Int)).bE.length-i<kk→i≤(gi l (q:Int)).bE.length→
  CC FU l (q:Int) y kk p (i:Int) (a:Int)=some (y,p||((gi l (q:Int)).bE.drop i).any ke,((max a (mL rD ((gi l (q:Int)).bE.drop i)):Nat):Int)):=by
 have hl:=nD (gi l (q:Int)).bE;intro kk
 induction kk with
 |zero=>intro i a p h;omega
 |succ kk ih=>
  intro i a p h hi;rw[CC];by_cases h1:i<(gi l (q:Int)).bE.length
  ·have h2:=mD (fY h1);have h3:=rz (gi (gi l (q:Int)).bE (i:Int));have e:(cond (gN (gi (gi l (q:Int)).bE (i:Int)).Value==0) ((fI (gi (gi l (q:Int)).bE (i:Int)).Value:Nat):Int) 0)=((rD (gi (gi l (q:Int)).bE (i:Int)):Nat):Int):=by
    unfold rD;cases(gN (gi (gi l (q:Int)).bE (i:Int)).Value==0)<;>rfl
   have hd:ke (gi (gi l (q:Int)).bE (i:Int))=false→(gN (gi (gi l (q:Int)).bE (i:Int)).Value !=0)=false:=λg=>by rw[(W0 g).1];rfl
   rw[ct h1,aB,bR h1,VU _ (by omega),aF,e,a1D _ (by omega),bG (by omega),fv h1,List.any_cons,mL,←fh _ i h1];simp only[lt_eq];rw[tF];have g:=λp=>ih (i+1) (max a (rD (gi (gi l (q:Int)).bE (i:Int)))) p (by omega) (by omega)
   revert hd
   cases p<;>cases(gN (gi (gi l (q:Int)).bE (i:Int)).Value !=0)<;>cases ke (gi (gi l (q:Int)).bE (i:Int))<;>intro hd<;>simp only[aB,aG,aF,Bool.true_or,o7]
   all_goals first|exact(Bool.noConfusion (hd rfl))|skip
   all_goals first|rw[show((8:Int) !=0)=true from rfl,g,Bool.true_or,Nat.max_assoc]|rw[show((0:Int) !=0)=false from rfl,g,o7,Nat.max_assoc]|rw[g,Bool.true_or,Nat.max_assoc]
  ·rw[cq (by omega),gR (by omega),mL,Nat.max_zero];cases p<;>rfl
theorem afK(l:List bJ)(q:Nat)(hb:zR (gi l (q:Int))≤1048576):∃(F t:Nat)(T:Int),W9 FU l (q:Int) ⟨((j3 (gi l (q:Int)).bh:Nat):Int),((iI (gi l (q:Int)).bh:Nat):Int),ng (gi l (q:Int)).bh⟩ (nb (gi l (q:Int)).bX) (a8 (ln (gi l (q:Int)).cK+ln (gi l (q:Int)).bE))=some ((F:Int),bS (gi l (q:Int)),T)∧a8 (T+1)=(t:Int)∧max t F=dS (gi l (q:Int)):=by
 have hz:=wZ (gi l (q:Int));have l1:=nD (gi l (q:Int)).bE;have l2:=nN (gi l (q:Int)).bX;have l3:=nR (gi l (q:Int)).bh;have l4:=nX (gi l (q:Int)).cK;have l5:=HZ (gi l (q:Int)).bh;have h4:mL rD (gi l (q:Int)).bE≤nT (gi l (q:Int)).bE:=qy λd hd=>by have:=mD hd;have:=PS d;omega
 obtain⟨es,e1,e2⟩:=Ij (gi l (q:Int)).cK (by omega);obtain⟨em,m1,m2,-⟩:=a1Z (gi l (q:Int)).aM (by omega);obtain⟨eu,u1,u2,-⟩:=VW (gi l (q:Int)).aM (by omega);have sd:Na FU (gi l (q:Int)).cK=some ((mL nU (gi l (q:Int)).cK:Nat):Int):=af5 FU (gi l (q:Int)).cK (by unfold FU;omega) (by omega);have ask:Nx FU (gi l (q:Int)).aM=some ((pf (gi l (q:Int)).aM:Nat):Int):=afk FU (gi l (q:Int)).aM (by unfold FU;omega) (by omega);have tol:NF FU (gi l (q:Int)).aM=some ((tG (gi l (q:Int)).aM:Nat):Int):=afg FU (gi l (q:Int)).aM (by unfold FU;omega) (by omega);have n2:decide (0<a8 (ln (gi l (q:Int)).bX+ln (gi l (q:Int)).bh))=_:=a2o (gi l (q:Int)).bX (gi l (q:Int)).bh (by omega) (by omega);have t2:decide (0<a8 (ln (gi l (q:Int)).cK+ln (gi l (q:Int)).bE))=_:=a2o (gi l (q:Int)).cK (gi l (q:Int)).bE (by omega) (by omega);rw[PQ,W3];unfold W9 HU xe;rw[n2,t2,af7,e1,m1,u1,sd,ask,tol,PP,PP];simp only[nh];by_cases k1:(gi l (q:Int)).a7=1
 ·rw[k1];have g:=λp=>afJ l q ((mL nU (gi l (q:Int)).cK:Nat):Int) (by omega) FU 0 (iI (gi l (q:Int)).bh) p (by unfold FU;omega) (fT _);simp only[du]at g;refine⟨mL nU (gi l (q:Int)).cK,max (iI (gi l (q:Int)).bh) (mL rD (gi l (q:Int)).bE)+1,((max (iI (gi l (q:Int)).bh) (mL rD (gi l (q:Int)).bE):Nat):Int),?_,bG (by omega),by simp only[show((1:Int)==1)=true from rfl,aB];omega⟩;simp only[show((1:Int)==1)=true from rfl,aB,aF];rw[←e2];have g2:=λp=>(show CC FU l (q:Int) ((mL nU (gi l (q:Int)).cK:Nat):Int) FU p 0 ((iI (gi l (q:Int)).bh:Nat):Int)=_ from g p);cases ng (gi l (q:Int)).bh<;>cases nb (gi l (q:Int)).bX<;>simp only[aB,aG,aF]<;>rw[g2]<;>
   cases(es !=0)<;>cases decide (32<ln (gi l (q:Int)).bE)<;>cases nV (gi l (q:Int)).aM<;>cases(ln (gi l (q:Int)).bX==0)<;>cases(ln (gi l (q:Int)).bh==0)<;>rfl
 ·rw[bM.2 k1];by_cases k2:(gi l (q:Int)).a7=2
  ·rw[k2];refine⟨pf (gi l (q:Int)).aM,iI (gi l (q:Int)).bh+1,((iI (gi l (q:Int)).bh:Nat):Int),?_,bG (by omega),by simp only[show((2:Int)==2)=true from rfl,aB,aG];omega⟩;rw[←m2];simp only[show((2:Int)==2)=true from rfl,aB,aG,aF];cases ng (gi l (q:Int)).bh<;>cases nb (gi l (q:Int)).bX<;>cases(ln (gi l (q:Int)).cK==0)<;>cases(ln (gi l (q:Int)).bE==0)<;>cases(ln (gi l (q:Int)).bX==0)<;>simp only[aB,aG,aF,fL,gS]<;>cases(em !=0)<;>rfl
  ·rw[bM.2 k2];by_cases k3:(gi l (q:Int)).a7=3
   ·rw[k3];refine⟨tG (gi l (q:Int)).aM,iI (gi l (q:Int)).bh+1,((iI (gi l (q:Int)).bh:Nat):Int),?_,bG (by omega),by simp only[show((3:Int)==3)=true from rfl,aB,aG];omega⟩;rw[←u2];simp only[show((3:Int)==3)=true from rfl,aB,aG,aF];cases ng (gi l (q:Int)).bh<;>cases nb (gi l (q:Int)).bX<;>cases(ln (gi l (q:Int)).cK==0)<;>cases(ln (gi l (q:Int)).bE==0)<;>cases(ln (gi l (q:Int)).bX==0)<;>simp only[aB,aG,aF,fL,gS]<;>cases(eu !=0)<;>rfl
   ·rw[bM.2 k3];by_cases k4:(gi l (q:Int)).a7=4
    ·rw[k4];refine⟨0,iI (gi l (q:Int)).bh+1,((iI (gi l (q:Int)).bh:Nat):Int),?_,bG (by omega),by simp only[show((4:Int)==5)=false from rfl,aB,aG];omega⟩;simp only[show((4:Int)==4)=true from rfl,aB,aG];cases ng (gi l (q:Int)).bh<;>cases nb (gi l (q:Int)).bX<;>cases(ln (gi l (q:Int)).cK==0)<;>cases(ln (gi l (q:Int)).bE==0)<;>cases decide (1<ln (gi l (q:Int)).bX)<;>cases nV (gi l (q:Int)).aM<;>rfl
    ·rw[bM.2 k4];by_cases k5:(gi l (q:Int)).a7=5
     ·rw[k5];refine⟨0,0,-1,?_,by decide,rfl⟩;simp only[show((5:Int)==5)=true from rfl,aB,aG];cases ng (gi l (q:Int)).bh<;>cases nb (gi l (q:Int)).bX<;>cases(ln (gi l (q:Int)).cK==0)<;>cases(ln (gi l (q:Int)).bE==0)<;>cases decide (ln (gi l (q:Int)).bX<1)<;>cases decide (64<ln (gi l (q:Int)).bX)<;>cases(ln (gi l (q:Int)).bh==0)<;>cases nV (gi l (q:Int)).aM<;>rfl
     ·rw[bM.2 k5];refine⟨0,iI (gi l (q:Int)).bh+1,((iI (gi l (q:Int)).bh:Nat):Int),?_,bG (by omega),by simp only[aB,aG];omega⟩;simp only[aB,aG];cases ng (gi l (q:Int)).bh<;>cases nb (gi l (q:Int)).bX<;>rfl
theorem afL:∀(k:Nat)(l:List bJ),gO l<k→gO l≤1048576→y0 FU k l=some ⟨((j3 l:Nat):Int),((iI l:Nat):Int),ng l⟩:=by
 intro k
 induction k with
 |zero=>intro l h;omega
 |succ k ih=>
  intro l hk hb;have hl:=nR l;have hle:=HZ l;have H:∀(kk i a b:Nat)(p:Bool),l.length-i<kk→i≤l.length→a+zL yQ (l.drop i)≤1048576→
    CD FU l (y0 FU k) kk (i:Int) (a:Int) (b:Int) p=some (((a+zL yQ (l.drop i):Nat):Int),((max b (mL dS (l.drop i)):Nat):Int),p||(l.drop i).any bS):=by
   intro kk
   induction kk with
   |zero=>intro i a b p h;omega
   |succ kk oH=>
    intro i a b p h hi ha;rw[CD];by_cases h1:i<l.length
    ·have hm:=fY h1;have hx:=mR hm;have hz:=wZ (gi l (i:Int));have l5:=HZ (gi l (i:Int)).bh;obtain⟨F,t,T,g1,g2,g3⟩:=afK l i (by omega);have e:l.drop i=gi l (i:Int)::l.drop (i+1):=by rw[fv h1,←fh _ i h1]
     rw[e,zL,PR]at ha;rw[ct h1,aB,bR h1,ih _ (by omega) (by omega),aF,lt_eq,afD _ (by omega),aF,bG (i:=i) (by omega),e,zL,mL,List.any_cons,PR];show Option.bind (Option.bind (W9 FU l (i:Int) ⟨((j3 (gi l (i:Int)).bh:Nat):Int),((iI (gi l (i:Int)).bh:Nat):Int),ng (gi l (i:Int)).bh⟩ (nb (gi l (i:Int)).bX) (a8 (ln (gi l (i:Int)).cK+ln (gi l (i:Int)).bE))) (a2r ⟨((j3 (gi l (i:Int)).bh:Nat):Int),((iI (gi l (i:Int)).bh:Nat):Int),ng (gi l (i:Int)).bh⟩ (a:Int) (b:Int) p)) (λ(dx:Int×Int×Bool)=>CD FU l (y0 FU k) kk ((i+1:Nat):Int) dx.1 dx.2.1 dx.2.2)=_;rw[g1,aF];unfold a2r;simp only[lt_eq];rw[g2,tF,tF,bG (by omega),HO _ _ (by omega),aF];simp only;rw[oH (i+1) _ _ _ (by omega) (by omega) (by omega),show max (max (max b t) F) (mL dS (l.drop (i+1)))=max b (max (max t F) (mL dS (l.drop (i+1)))) by omega,g3];rw[show a+(j3 (gi l (i:Int)).bh+1)+zL yQ (l.drop (i+1))=a+(1+j3 (gi l (i:Int)).bh+zL yQ (l.drop (i+1))) by omega];cases p<;>rfl
    ·rw[cq (by omega),gR (by omega),zL,mL,Nat.max_zero];cases p<;>rfl
  have a:=H FU 0 0 0 false (by unfold FU;omega) (fT _) (by rw[du,←HY];omega);rw[du,Nat.zero_max,Nat.zero_add,←HY,←HW,←HV,o7]at a;rw[y0,show CD FU l (y0 FU k) FU 0 0 0 false=_ from a];rfl
theorem a2s(l:List bJ)(hb:gO l≤1048576):CG FU l=some (cond (sF l) 0 8):=by
 unfold CG sF;rw[show Sp FU l=_ from afL FU l (by unfold FU;omega) hb,aF];have e1:decide ((64:Int)<((j3 l:Nat):Int))=decide (64<j3 l):=by
  by_cases h:64<j3 l
  ·rw[cB h,cB (by omega)]
  ·rw[cv h,cv (by omega)]
 simp only[lt_eq];rw[e1];cases hbs:ng l
 ·have e:iI l=nW l:=by
   rw[HV]at hbs;rw[HW,HX];exact PT λx hx=>afF _ x (dz _) (W6 hbs x hx)
  have e2:decide ((16:Int)<((iI l:Nat):Int))=!(decide (nW l≤16)):=by
   rw[e];by_cases h:nW l≤16
   ·rw[cB h,cv (by omega)];rfl
   ·rw[cv h,cB (by omega)];rfl
  rw[e2];cases decide (64<j3 l)<;>cases decide (nW l≤16)<;>rfl
 ·cases decide (64<j3 l)<;>rfl
theorem a2t(c:aP)(e:jK)(bZ:List Bool)(hb:zC c≤1048576)(hy:bZ.length≤1048576)(hw:0≤e.cz∧e.cz≤1000000000)(hv:mz c=true∨sup c=true):
  ∃p,De FU c e bZ=some p∧AX FU c e bZ=some p:=by
 obtain⟨em,m1,m2,m3⟩:=a1Z c hb;obtain⟨eu,u1,u2,u3⟩:=VW c hb;have Mi:pL c=true:=by
  rcases hv with h|h
  ·exact afr h
  ·refine a2h _ c (dz _) ?_;unfold sup at h
   revert h
   cases decide (fJ c≤1500)<;>cases decide (iH c≤16)<;>cases mA c<;>intro h<;>first|rfl|exact Bool.noConfusion h
 have hc:KA FU c=some 0:=by
  unfold KA;rw[m1,aF,m2,u1];cases hm:mz c
  ·rcases hv with h|h
   ·rw[hm]at h;exact Bool.noConfusion h
   ·rw[h]at u2;rcases u3 with g|g
    ·rw[g];rfl
    ·rw[g]at u2;exact Bool.noConfusion u2
  ·rfl
 have d1:JQ FU c=some (dM c):=a2m FU c (by unfold FU;omega) hb Mi;have d2:DX FU c=some (dM c):=VZ FU c (by unfold FU;omega) hb;have w0:decide (e.cz<0)=false:=cv (by omega);have w1:decide (1000000000<e.cz)=false:=cv (by omega);have hr:cond (!(mz c)) (some (sup c)) (some default)=some (cond (!(mz c)) (sup c) default):=by cases mz c<;>rfl
 have hz:(cond (!(mz c)) (!(cond (!(mz c)) (sup c) default)) false)=false:=by
  cases hm:mz c
  ·rcases hv with h|h
   ·rw[hm]at h;exact Bool.noConfusion h
   ·rw[h];rfl
  ·rfl
 refine⟨cond (ln bZ !=ln (dM c)) (false,2) (tH (a8 (1000*e.cz)) c bZ,0),?_,?_⟩
 ·unfold De;rw[hc,d1,w0,w1,bz rfl];simp only[nh,aF,aG,show((0:Int) !=0)=false from rfl];by_cases h:bZ.length=(dM c).length
  ·have e1:(ln bZ !=ln (dM c))=false:=by unfold ln;rw[h];exact bne_self_eq_false _
   have g:=afx (a8 (1000*e.cz)) bZ hy FU c 0 (by unfold FU;omega) hb Mi (by omega);have e2:cut bZ 0 (dM c).length=bZ:=by unfold cut;rw[du,List.take_of_length_le (by omega)]
   rw[e2]at g;rw[e1,show Tz FU c (a8 (1000*e.cz)) 0 bZ=_ from g];rfl
  ·have e1:(ln bZ !=ln (dM c))=true:=by unfold ln;exact bne_iff_ne.2 (by omega)
   rw[e1];rfl
 ·unfold AX;rw[a22 c hb,VV c hb,d2,w0,w1,aF,hr,aF,hz];simp only[nh,aF,aG];by_cases h:bZ.length=(dM c).length
  ·have e1:(ln bZ !=ln (dM c))=false:=by unfold ln;rw[h];exact bne_self_eq_false _
   have g:UK FU c e bZ=_:=afA e FU c bZ (by unfold FU;omega) hb Mi h;rw[e1,g];rfl
  ·have e1:(ln bZ !=ln (dM c))=true:=by unfold ln;exact bne_iff_ne.2 (by omega)
   rw[e1];rfl
theorem a2u{ρ:Type}(F:Nat→List Bool→Int→Option ρ)(l:List cy)(fin:List Bool→ρ)
  (hF:∀(kk i:Nat)(a:List Bool),i<l.length→gi l (i:Int)∈l→a.length≤i→F (kk+1) a (i:Int)=F kk (a++[Bc (gi l (i:Int))]) ((i+1:Nat):Int))(hE:∀kk (i:Nat)(a:List Bool),l.length≤i→F (kk+1) a (i:Int)=some (fin a)):
  ∀(kk i:Nat)(a:List Bool),l.length-i<kk→a.length≤i→F kk a (i:Int)=some (fin (a++(l.drop i).map Bc)):=by
 intro kk
 induction kk with
 |zero=>intro i a h;omega
 |succ kk ih=>
  intro i a h ha;by_cases h1:i<l.length
  ·rw[hF kk i a h1 (fY h1) ha,ih (i+1) _ (by omega) (by rw[ee,List.length_singleton];omega),fv h1,List.map_cons,←fh l i h1,mG];rfl
  ·rw[hE kk i a (by omega),gR (by omega),List.map_nil,List.append_nil]
theorem a2v{d:cy}{n:Nat}(h:zD d≤n):d.aO.length≤n∧cj d.Value≤n:=by rw[rz]at h;omega
theorem afM(r:bJ)(e:jK)(hb:zR r≤1048576)(hw:0≤e.cz∧e.cz≤1000000000)(hs:bS r=false):∃b,KB FU r e=some b∧LB FU r e=some b:=by
 have hz:=wZ r;rw[PQ,sJ]at hs;have hk:=hs.2;unfold HU at hk;unfold KB LB;by_cases k3:r.a7=3
 ·rw[k3]at hk⊢;have BJ:sup r.aM=true:=by
   revert hk
   cases(xe r.cK r.bE)<;>cases(ln r.bX==0)<;>cases sup r.aM<;>intro hk<;>first|rfl|exact Bool.noConfusion hk
  have Mi:pL r.aM=true:=by
   refine a2h _ _ (dz _) ?_;have h:=BJ;unfold sup at h
   revert h
   cases decide (fJ r.aM≤1500)<;>cases decide (iH r.aM≤16)<;>cases mA r.aM<;>intro h<;>first|rfl|exact Bool.noConfusion h
  obtain⟨eu,u1,u2,u3⟩:=VW r.aM (by omega);have hd:=a2j _ r.aM (dz _);have e0:eu=0:=by
   rw[BJ]at u2;rcases u3 with g|g
   ·exact g
   ·rw[g]at u2;exact Bool.noConfusion u2
  have c1:JR FU r.aM=some (dM r.aM,0):=by
   unfold JR;rw[u1,e0,show JQ FU r.aM=_ from a2m FU _ (by unfold FU;omega) (by omega) Mi];rfl
  have c2:L7 FU r.aM=some (dM r.aM,0):=by
   unfold L7;rw[VV _ (by omega),BJ,show DX FU r.aM=_ from VZ FU _ (by unfold FU;omega) (by omega)];rfl
  have m1:=a2u (Aw FU (dM r.aM,0)) (dM r.aM) (Sum.inr (α:=Bool)) (λkk i a hi hm ha=>by
   have h1:=a2v (hd.2 _ hm);rw[Aw];show cond (decide ((i:Int)<ln (dM r.aM))) (au (0≤(i:Int)∧(i:Int)<ln (dM r.aM)) (Option.bind (Gs FU (gi (dM r.aM) (i:Int))) _)) _=_;rw[ct hi,aB,bR hi,ae6 _ (by omega) (by omega),aF,bz (by unfold ln;rw[List.length_singleton];omega),nh,bG (by omega)])
   (λkk i a hi=>by
    rw[Aw];show cond (decide ((i:Int)<ln (dM r.aM))) _ _=_;rw[cq hi];rfl) FU 0 [] (by unfold FU;omega) (dz _)
  have m2:=a2u (B9 FU (dM r.aM,0)) (dM r.aM) id (λkk i a hi hm ha=>by
   have h1:=a2v (hd.2 _ hm);rw[B9];show cond (decide ((i:Int)<ln (dM r.aM))) (au (0≤(i:Int)∧(i:Int)<ln (dM r.aM)) (Option.bind (HF FU (gi (dM r.aM) (i:Int))) _)) _=_;rw[ct hi,aB,bR hi,ae7 _ (by omega) (by omega),aF,bz (by unfold ln;rw[List.length_singleton];omega),nh,bG (by omega)])
   (λkk i a hi=>by
    rw[B9];show cond (decide ((i:Int)<ln (dM r.aM))) _ _=_;rw[cq hi];rfl) FU 0 [] (by unfold FU;omega) (dz _)
  rw[du,List.nil_append]at m1 m2;obtain⟨p,p1,p2⟩:=a2t r.aM e ((dM r.aM).map Bc) (by omega) (by rw[List.length_map];omega) hw (Or.inr BJ);refine⟨p.1,?_,?_⟩
  ·rw[c1];show Option.bind (Option.bind (some (dM r.aM,(0:Int))) λgg=>Aw FU gg FU ([]:List Bool) 0) _=_;rw[aF,show Aw FU (dM r.aM,0) FU [] 0=_ from m1];show Option.bind (De FU r.aM e ((dM r.aM).map Bc)) _=_;rw[p1];rfl
  ·rw[c2];show Option.bind (some (dM r.aM,(0:Int))) (λiw=>Option.bind (B9 FU iw FU ([]:List Bool) 0) λz31=>Option.bind (AX FU r.aM e z31) λLC=>some LC.1)=_;rw[aF,show B9 FU (dM r.aM,0) FU [] 0=_ from m2,aF];show Option.bind (AX FU r.aM e ((dM r.aM).map Bc)) _=_;rw[p2];rfl
 ·rw[show(r.a7 !=3)=!(r.a7==3)from rfl,bM.2 k3];by_cases k2:r.a7=2
  ·rw[k2]at hk⊢;have hm:mz r.aM=true:=by
    revert hk
    cases(xe r.cK r.bE)<;>cases(ln r.bX==0)<;>cases mz r.aM<;>intro hk<;>first|rfl|exact Bool.noConfusion hk
   obtain⟨p,p1,p2⟩:=a2t r.aM e [] (by omega) (by decide) hw (Or.inl hm);refine⟨p.1,?_,?_⟩
   ·show Option.bind (De FU r.aM e []) _=_;rw[p1];rfl
   ·rw[p2];rfl
  ·rw[bM.2 k2];exact⟨true,rfl,rfl⟩
theorem afN{r:bJ}(h:sF [r]=true):bS r=false:=by
 unfold sF at h;rw[ng,ng,Bool.or_false]at h
 revert h
 cases decide (64<j3 [r])<;>cases bS r<;>intro h<;>first|rfl|exact Bool.noConfusion h
theorem afO(r:bJ)(e:jK)(hb:zR r≤1048576):∃p,KD FU r e=some p∧LD FU r e=some p:=by
 have h1:gO [r]≤1048576:=by rw[gO,gO];omega
 have c1:JN FU r=some (cond (sF [r]) 0 8):=by unfold JN;rw[a2s _ h1];rfl
 have c2:L5 FU r=some (cond (sF [r]) 0 8):=by unfold L5;rw[a2q _ h1];rfl
 have ei:JO e=DV e:=rfl;unfold KD LD;rw[c1,c2,ei];cases hk:sF [r]
 ·exact⟨_,rfl,rfl⟩
 ·cases hw:DV e
  ·exact⟨_,rfl,rfl⟩
  ·have hw2:0≤e.cz∧e.cz≤1000000000:=by
    unfold DV at hw;simp only[nh]at hw;by_cases g1:0≤e.cz
    ·by_cases g2:e.cz≤1000000000
     ·exact⟨g1,g2⟩
     ·rw[cB g1,cv g2]at hw;exact Bool.noConfusion hw
    ·rw[cv g1]at hw;exact Bool.noConfusion hw
   obtain⟨b,b1,b2⟩:=afM r e hb hw2 (afN hk);rw[b1,b2];exact⟨(b,0),rfl,rfl⟩
theorem Wa(s:jV):zO s=gO s.iq.bh+4:=by unfold zO;omega
def Mj(s:jV):Bool:=cond (cond (decide (s.mH<1)) true (decide (3<s.mH))) true (!(sF s.iq.bh))
theorem afP(l:List jV)(hb:vf l≤1048576):∃p,LG FU l=some p∧LH FU l=some p:=by
 have hl:=nO l;have a1:Eb FU l FU 0=cond (l.any Mj) (some (.inl 8)) (some (.inr ())):=
  pd (Eb FU l) l _ _ _ (by omega) (λkk i hi hm=>by
   have h1:=mO hm;rw[Wa]at h1;rw[Eb,ct hi,aB,bR hi,bG (by omega)];simp only[nh];have e:LF FU (qU.mk (gi l (i:Int)).iq.bh)=some (cond (sF (gi l (i:Int)).iq.bh) 0 8):=by
    unfold LF;show Option.bind (CG FU (gi l (i:Int)).iq.bh) _=_;rw[a2s _ (by omega)];rfl
   rw[e];unfold Mj;cases(cond (decide ((gi l (i:Int)).mH<1)) true (decide (3<(gi l (i:Int)).mH)))<;>cases sF (gi l (i:Int)).iq.bh<;>rfl) (λkk i hi=>by rw[Eb,cq hi];rfl)
 have a2:Ec FU l FU 0=cond (l.any Mj) (some (.inl 8)) (some (.inr ())):=
  pd (Ec FU l) l _ _ _ (by omega) (λkk i hi hm=>by
   have h1:=mO hm;rw[Wa]at h1;rw[Ec,ct hi,aB,bR hi,bG (by omega)];simp only[nh];rw[a2q _ (by omega)];unfold Mj;cases(cond (decide ((gi l (i:Int)).mH<1)) true (decide (3<(gi l (i:Int)).mH)))<;>cases sF (gi l (i:Int)).iq.bh<;>rfl) (λkk i hi=>by rw[Ec,cq hi];rfl)
 unfold LG LH;rw[a1,a2];cases decide (8<ln l)<;>cases l.any Mj<;>exact⟨_,rfl,rfl⟩
theorem Bl{α σ ρ:Type}[Inhabited α](F:Nat→σ→Int→Option ρ)(l:List α)
  (hF:∀(kk i:Nat)(a:σ),i<l.length→gi l (i:Int)∈l→(∃r,F (kk+1) a (i:Int)=some r)∨∃b,F (kk+1) a (i:Int)=F kk b ((i+1:Nat):Int))(hE:∀kk (i:Nat)(a:σ),l.length≤i→∃r,F (kk+1) a (i:Int)=some r):
  ∀(kk i:Nat)(a:σ),l.length-i<kk→∃r,F kk a (i:Int)=some r:=by
 intro kk
 induction kk with
 |zero=>intro i a h;omega
 |succ kk ih=>
  intro i a h;by_cases h1:i<l.length
  ·rcases hF kk i a h1 (fY h1)with h|⟨b,h⟩
   ·exact h
   ·rw[h];exact ih (i+1) b (by omega)
  ·exact hE kk i a (by omega)
theorem afQ:∀(k:Nat)(l:List bo)(q:Int),gH l<k→gH l≤1048576→∃n,sR FU k l q=some n:=by
 intro k
 induction k with
 |zero=>intro l q h;omega
 |succ k ih=>
  intro l q hk hb;have hl:=nX l;rw[sR];have H:∃r,BX FU l q (sR FU k) FU 0 0=some r:=Bl (BX FU l q (sR FU k)) l (λkk i a hi hm=>by
   have h1:=mX hm;rw[qx]at h1;have l2:=nP (gi l (i:Int)).aL;rw[BX,ct hi];simp only[nh];by_cases g:a≤q
   ·rw[cB g];have H2:=Bl (BW FU l q (i:Int) (sR FU k)) (gi l (i:Int)).aL (λkk j a hj kQ=>by
     have h2:=mP kQ;rw[tE]at h2;have l3:=nS (gi (gi l (i:Int)).aL (j:Int)).aX;rw[BW,ct hj];simp only[nh];by_cases g:a≤q
     ·rw[cB g];have H3:=Bl (BV FU l q (i:Int) (j:Int) (sR FU k)) (gi (gi l (i:Int)).aL (j:Int)).aX (λkk w a hw hwm=>by
       have h3:=mS hwm;rw[wY]at h3;rw[BV,nh,ct hw];simp only[nh];by_cases g:a≤q
       ·obtain⟨n,hn⟩:=ih (gi (gi (gi l (i:Int)).aL (j:Int)).aX (w:Int)).J (a8 (q-a)) (by omega) (by omega);rw[cB g,aB,aB,bR hw,hn,aF,bG (i:=w) (by omega)];exact Or.inr ⟨_,rfl⟩
       ·rw[cv g];exact Or.inl ⟨_,rfl⟩) (λkk w a hw=>by rw[BV,nh,cq hw];exact⟨_,rfl⟩) FU 0 (a8 (a+a8 (1+ln (gi (gi l (i:Int)).aL (j:Int)).Tag))) (by unfold FU;omega)
      obtain⟨n,hn⟩:=H3;rw[aB,aB,bR hj,show BV FU l q (i:Int) (j:Int) (sR FU k) FU (a8 (a+a8 (1+ln (gi (gi l (i:Int)).aL (j:Int)).Tag))) 0=_ from hn,aF,bG (i:=j) (by omega)];exact Or.inr ⟨_,rfl⟩
     ·rw[cv g];exact Or.inl ⟨_,rfl⟩) (λkk j a hj=>by rw[BW,cq hj];exact⟨_,rfl⟩) FU 0 (a8 (a+a8 (1+ln (gi l (i:Int)).dv))) (by unfold FU;omega)
    obtain⟨n,hn⟩:=H2;rw[aB,aB,bR hi,show BW FU l q (i:Int) (sR FU k) FU (a8 (a+a8 (1+ln (gi l (i:Int)).dv))) 0=_ from hn,aF,bG (i:=i) (by omega)];exact Or.inr ⟨_,rfl⟩
   ·rw[cv g];exact Or.inl ⟨_,rfl⟩) (λkk i a hi=>by rw[BX,cq hi];exact⟨_,rfl⟩) FU 0 0 (by unfold FU;omega)
  obtain⟨n,hn⟩:=H;rw[hn];exact⟨n,rfl⟩
theorem afR(l:List bo)(hb:gH l≤1048576):∃b,IJ FU l=some b:=by
 obtain⟨n,hn⟩:=afQ FU l 600 (by unfold FU;omega) hb;unfold IJ;rw[show Ry FU l 600=_ from hn];exact⟨_,rfl⟩
theorem a2w(l:List cy)(hb:nT l≤1048576):∃b,F4 FU l=some b:=by
 have hl:=nD l;have H:∃r,C1 FU l FU 0 0=some r:=Bl (C1 FU l) l (λkk i a hi hm=>by
  have h1:=mD hm;rw[rz]at h1;obtain⟨n,hn⟩:=acD FU (by decide) FU (gi l (i:Int)).Value 300 (by unfold FU;omega) (by omega);rw[C1,ct hi,aB,bR hi,show Rz FU (gi l (i:Int)).Value 300=_ from hn,aF,show xA FU (gi l (i:Int)).Value=_ from Pj FU (by decide) FU _ (by unfold FU;omega) (by omega),bG (i:=i) (by omega)];simp only[nh];cases decide (300<a8 (a+a8 (ln (gi l (i:Int)).aO+n)))
  ·simp only[aG,aF];cases decide ((40:Int)<((fI (gi l (i:Int)).Value:Nat):Int))
   ·exact Or.inr ⟨_,rfl⟩
   ·exact Or.inl ⟨_,rfl⟩
  ·exact Or.inl ⟨_,rfl⟩) (λkk i a hi=>by rw[C1,cq hi];exact⟨_,rfl⟩) FU 0 0 (by unfold FU;omega)
 obtain⟨r,hr⟩:=H;unfold F4;rw[hr];cases decide (40<ln l)<;>rcases r with r|r<;>exact⟨_,rfl⟩
theorem afS:∀(k:Nat)(c:aP),zC c<k→zC c≤1048576→∃b,u7 FU k c=some b:=by
 intro k
 induction k with
 |zero=>intro c h;omega
 |succ k ih=>
  intro c hk hb;have hz:=jA c;have hl:=nC c.J;obtain⟨g,hg⟩:=a2w [c.aA] (by rw[nT,nT];omega);have H:∃r,vu FU c (u7 FU k) FU 0=some r:=Bl (λkk (_:Unit) i=>vu FU c (u7 FU k) kk i) c.J (λkk i a hi hm=>by
   have h1:=mC hm;obtain⟨b,hb⟩:=ih _ (show zC (gi c.J (i:Int))<k by omega) (by omega);show(∃r,vu FU c (u7 FU k) (kk+1) (i:Int)=some r)∨∃b:Unit,vu FU c (u7 FU k) (kk+1) (i:Int)=_;rw[vu,ct hi,aB,bR hi,hb,bG (i:=i) (by omega)];cases b
   ·exact Or.inr ⟨(),rfl⟩
   ·exact Or.inl ⟨_,rfl⟩) (λkk i a hi=>by
    show∃r,vu FU c (u7 FU k) (kk+1) (i:Int)=some r;rw[vu,cq hi];exact⟨_,rfl⟩) FU 0 () (by unfold FU;omega)
  obtain⟨r,hr⟩:=H;rw[u7,hg,hr,aF,nh];cases g<;>cases decide (200<ln c.aO)<;>rcases r with r|r<;>exact⟨_,rfl⟩
theorem afT(c:aP)(hb:zC c≤1048576):∃b,IR FU c=some b:=by
 obtain⟨n,hn,-⟩:=a25 FU c 100 (by unfold FU;omega) hb (by decide);obtain⟨b,hl⟩:=afS FU c (by unfold FU;omega) hb;unfold IR;rw[show IQ FU c 100=_ from hn,aF,show RB FU c=_ from hl];cases decide (100<(n:Int))<;>exact⟨_,rfl⟩
theorem afU:∀(k:Nat)(l:List bJ)(q:Int),gO l<k→gO l≤1048576→∃b,ub FU k l q=some b:=by
 intro k
 induction k with
 |zero=>intro l q h;omega
 |succ k ih=>
  intro l q hk hb;have hl:=nR l;have H:∃r,vw FU l q (ub FU k) FU 0=some r:=Bl (λkk (_:Unit) i=>vw FU l q (ub FU k) kk i) l (λkk i a hi hm=>by
   have h1:=mR hm;rw[wZ]at h1;have l2:=nN (gi l (i:Int)).bX;obtain⟨b1,g1⟩:=afR (gi l (i:Int)).cK (by omega);obtain⟨b2,g2⟩:=a2w (gi l (i:Int)).bE (by omega);obtain⟨b3,g3⟩:=afT (gi l (i:Int)).aM (by omega);obtain⟨b4,g4⟩:=ih (gi l (i:Int)).bh (a8 (q-1)) (by omega) (by omega);have H2:∃r,vv FU l (i:Int) FU 0=some r:=Bl (λkk (_:Unit) j=>vv FU l (i:Int) kk j) (gi l (i:Int)).bX (λkk j a hj kQ=>by
    show(∃r,vv FU l (i:Int) (kk+1) (j:Int)=some r)∨∃b:Unit,vv FU l (i:Int) (kk+1) (j:Int)=_;rw[vv,ct hj,aB,bR hj,nh,bG (i:=j) (by omega)];cases decide (20<ln (gi (gi l (i:Int)).bX (j:Int)))
    ·exact Or.inr ⟨(),rfl⟩
    ·exact Or.inl ⟨_,rfl⟩) (λkk j a hj=>by
     show∃r,vv FU l (i:Int) (kk+1) (j:Int)=some r;rw[vv,cq hj];exact⟨_,rfl⟩) FU 0 () (by unfold FU;omega)
   obtain⟨r2,LO⟩:=H2;show(∃r,vw FU l q (ub FU k) (kk+1) (i:Int)=some r)∨∃b:Unit,vw FU l q (ub FU k) (kk+1) (i:Int)=_;rw[vw,ct hi,aB,bR hi,g1,g2,g3,g4,LO,bG (i:=i) (by omega)];simp only[nh,aF];cases b1<;>cases b2<;>cases b3<;>cases decide (70<ln (gi l (i:Int)).bX)<;>cases b4<;>rcases r2 with(r2|r2)|r2<;>first|exact Or.inl ⟨_,rfl⟩|exact Or.inr ⟨(),rfl⟩) (λkk i a hi=>by
    show∃r,vw FU l q (ub FU k) (kk+1) (i:Int)=some r;rw[vw,cq hi];exact⟨_,rfl⟩) FU 0 () (by unfold FU;omega)
  obtain⟨r,hr⟩:=H;rw[ub,hr,nh];cases(cond (q==0) true (decide (70<ln l)))<;>rcases r with r|r<;>exact⟨_,rfl⟩
theorem a2x(l:List bJ)(hb:gO l≤1048576):∃b,F6 FU l=some b:=by
 obtain⟨b,h⟩:=afU FU l 30 (by unfold FU;omega) hb;unfold F6;rw[show RC FU l 30=_ from h,show zu FU l=_ from W7 FU l (by unfold FU;omega) hb];cases b<;>exact⟨_,rfl⟩
theorem afV(l:List jV)(hb:vf l≤1048576):∃b,IX FU l=some b:=by
 have hl:=nO l;have H:∃r,C4 FU l FU 0 0=some r:=Bl (C4 FU l) l (λkk i a hi hm=>by
  have h1:=mO hm;rw[Wa]at h1;obtain⟨b,g⟩:=a2x (gi l (i:Int)).iq.bh (by omega);rw[C4,ct hi,nh,bR hi,g,show zu FU (gi l (i:Int)).iq.bh=_ from W7 FU _ (by unfold FU;omega) (by omega),bG (i:=i) (by omega)];cases decide ((i:Int)≤10)
  ·exact Or.inl ⟨_,rfl⟩
  ·cases b
   ·exact Or.inr ⟨_,rfl⟩
   ·exact Or.inl ⟨_,rfl⟩) (λkk i a hi=>by rw[C4,cq hi];exact⟨_,rfl⟩) FU 0 0 (by unfold FU;omega)
 obtain⟨r,hr⟩:=H;unfold IX;rw[hr];rcases r with r|r<;>exact⟨_,rfl⟩
theorem afW(r:bJ)(l:List jV)(e:jK)(hr:zR r≤1048576)(hl:vf l≤1048576):HG FU r l e=some true:=by
 obtain⟨b1,g1⟩:=a2x [r] (by rw[gO,gO];omega);obtain⟨b2,g2⟩:=afV l hl;obtain⟨p,p1,p2⟩:=afO r e hr;obtain⟨c,c1,c2⟩:=afP l hl;unfold HG;rw[g1,g2,p1,p2,c1,c2];simp only[nh,aF];rw[beq_self_eq_true,beq_self_eq_true];cases b1
 ·cases b2
  ·simp only[aB,aG,aF];rw[beq_self_eq_true]
  ·rfl
 ·rfl
def Mk(x:jV):Nat:=1+(il zR x.iq.bh+1)+1
theorem a2y:∀l:List jV,(l.map Mk).sum=vf l
 |[]=>rfl
 |v::r=>by
  have h:=a2y r;have e:Mk v=zO v:=by unfold Mk zO;rw[show il zR v.iq.bh=gO v.iq.bh+1 from Vz _]
  rw[vf,List.map_cons,List.sum_cons,h,e]
theorem afX(r:bJ)(l:List jV)(e:jK){p q s:Prop}(_:p)(_:q)(_:s)(hb:zR r+il Mk l+(1+1)+0≤1048576):HG FU r l e=some true:=by
 have h:il Mk l=vf l+1:=congrArg (· +1) (a2y l);exact afW r l e (by omega) (by omega)
end Go.Proofs.YtnjmihahnjohoaaGreatDoor
