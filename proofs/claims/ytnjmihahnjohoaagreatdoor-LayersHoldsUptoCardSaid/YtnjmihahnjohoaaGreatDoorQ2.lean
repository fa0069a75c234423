/-
 'append' onto a slice that is read and has no room: a new row. A thing of the call's own that is lent. Nothing here is a statement of this claim.
-/
import Derived.Test.YtnjmihahnjohoaaGreatDoorQ1
import Derived.ArgAppend
import Derived.Laws.IdiomCopy
import Derived.DataReads
import Derived.ChangeOld
import Derived.ChangeArms
import Derived.Lib.LaidU8
import Derived.StillTail
import Derived.WideMake
import Derived.MapKept
import Derived.Lib.Mul64
namespace Go.V
open Go Go.RowKit
section
variable {P:Program} {a:Act} {w:World} {n:Nat} {l:SF} {M:Av} {D:List Deferred}
end
section
variable {M:Av} {X:List Nat} {w0 w w':World} {L R:List aU}
end
section
variable {P:Program} {a:Act} {w:World} {n:Nat} {l:SF} {M:Av} {D:List Deferred}
end
section
variable {P:Program} {a:Act} {w:World} {n:Nat} {l:SF} {M:Av} {D:List Deferred}
theorem a3y{α:Type}{T:Ty α}{d:Nat}{t E ty:TypeId}{x lo hi mx:Operand}{pos:String}{after:Array Edge}{g:Gh}{q:List α}{n0 c0:Nat}{a0:Option Addr}{L:List aU}{k k2 k3:IntKind}(i j:Int)(H:aD D n l a)(hS:S0 M L w)(hs:bC T (fK M L) w q g)
  (hx:ev l [] x=some (.slice a0 n0 c0))(ha:g.a=a0)(hc:g.c=c0)(hn:q.length=n0)(Bo:ev l [] lo=some (.int k3 i))(Bp:ev l [] hi=some (.int k j))(hmx:ev l [] mx=some (.int k2 j))
  (hu:P.underlying t=some (.slice E))(hz:(P.info? E).map (·.size)=some T.z)(ez:0≤i∧i≤j∧j≤ln q):
  br P ⟨some d,.slice t x (some lo) (some hi) (some mx),ty,pos,after,none⟩ a w λv w'=>∃g':Gh,v=.slice g'.a (eY q i j).length (eY q i j).length∧SH M (aH L) w (.im T (eY q i j) (.mk g'.a (eY q i j).length g'.s)::L) w':=by
 subst ha hc hn;have hlen:(eY q i j).length=j.toNat-i.toNat:=vn q ez;have nZ:(sizeOf E).run P w=.ok T.z w:=mE hz;have WW:=hs.1.cp;have hj:j.toNat≤g.c:=by unfold ln at ez;omega
 have xl:bC T (fK M L) w (eY q i j) (.mk (if j.toNat-i.toNat=0 then g.a else g.a.map (·.add (i.toNat*T.z))) (j.toNat-i.toNat) (λk=>g.s (i.toNat+k))):=by
  rcases Nat.eq_zero_or_pos (eY q i j).length with h0|h0
  ·have:=List.eq_nil_of_length_eq_zero h0;rw[this];exact bC.nil
  ·rw[hlen]at h0;have h1:=hs.sub ez;rw[if_neg (show¬g.c=i.toNat by omega)]at h1;rw[if_neg (show¬j.toNat-i.toNat=0 by omega)];exact⟨⟨h1.1.ok,h1.1.lt,h1.1.av,h1.1.get,by rw[hlen];exact Nat.le_refl _⟩,h1.2⟩
 refine br.qL (v:=.slice (if j.toNat-i.toNat=0 then g.a else g.a.map (·.add (i.toNat*T.z))) (j.toNat-i.toNat) (j.toNat-i.toNat)) (w':=w) ?_ ⟨.mk (if j.toNat-i.toNat=0 then g.a else g.a.map (·.add (i.toNat*T.z))) (j.toNat-i.toNat) (λk=>g.s (i.toNat+k)),?_,?_⟩
 ·have hb:(Instr.sliceBounds true q.length g.c (some (.int k3 i)) (some (.int k j)) (some (.int k2 j))).run P w=.ok (i.toNat,j.toNat,j.toNat) w:=by
   have q1:j≤(g.c:Int):=by omega
   have q2:0≤j:=by omega
   have q3:j≤max j 0:=by omega
   have q4:i≤max j 0:=by omega
   have q5:=ez.1;simp[Instr.sliceBounds,Instr.sliceBound,asIntOf,q1,q2,q3,q4,q5]
  have Q7:(if j.toNat=i.toNat then g.a else g.a.map (·.add (i.toNat*T.z)))=(if j.toNat-i.toNat=0 then g.a else g.a.map (·.add (i.toNat*T.z))):=by
   by_cases he:j.toNat=i.toNat
   ·rw[if_pos he,if_pos (by omega)]
   ·rw[if_neg he,if_neg (by omega)]
  rw[←Q7];simp only[execOp,H.ev (fP a) hx,Instr.sliceAt,Sem.run_bind,run_underlying hu,Result.andThen_ok,Option.map_some,H.ev (fP a) Bo,H.ev (fP a) Bp,H.ev (fP a) hmx,Instr.slice,hb,nZ,Sem.run_pure]
 ·rw[hlen];rfl
 ·rw[hlen];exact hS.ik xl
end
theorem bC.nl{α:Type}{T:Ty α}{M:Av}{w:World}{l:List α}{g:Gh}(h:bC T M w l g)(hn:g.a=none):l=[]:=by
 cases l with
 |nil=>rfl
 |cons x r=>
  have:=h.1.ok (by simp);unfold dE at this;rw[hn]at this;cases this
section
variable {D:List Deferred}
def tR(a:Option Addr)(c i z:Nat):Option Addr:=if c=i then a else a.map (·.add (i*z))
theorem add_zero'(x:Addr):x.add 0=x:=by unfold Addr.add;split<;>simp_all
theorem a3z(a:Option Addr)(c z:Nat):a=tR a c 0 z:=by
 unfold tR;split
 ·rfl
 ·cases a with
  |none=>rfl
  |some x=>simp[add_zero']
section
variable {P:Program} {a:Act} {w:World} {n:Nat} {l:SF} {M:Av}
theorem X8{α:Type}{T:Ty α}{d:Nat}{t E ty e:TypeId}{x:Operand}{lo hi:Option Operand}{pos:String}{after:Array Edge}{g:Gh}{q:List α}{n0 c0:Nat}{a0:Option Addr}(i j:Int)(qF lC:Option Value)(H:aD D n l a)(hS:S0 M [.own e T q g] w)
  (hx:ev l [] x=some (.slice a0 n0 c0))(ha:g.a=a0)(hc:g.c=c0)(hn:q.length=n0)(Bo:ox l [] lo=some qF)(Bp:ox l [] hi=some lC)
  (h1:(qF=none∧i=0)∨∃k,qF=some (.int k i))(h2:(lC=none∧j=ln q)∨∃k,lC=some (.int k j))
  (hu:P.underlying t=some (.slice E))(hz:(P.info? E).map (·.size)=some T.z)(ez:0≤i∧i≤j∧j≤ln q):
  br P ⟨some d,.slice t x lo hi none,ty,pos,after,none⟩ a w λv w'=>v=.slice (tR g.a g.c i.toNat T.z) (j.toNat-i.toNat) (g.c-i.toNat)∧SH M (aH [.own e T q g]) w [.own e T q g] w':=by
 subst ha hc hn;have Il:∀(y:Option Operand) v,ox l [] y=some v→y.map a.eval=v:=by
  intro y v hy;cases y with
  |none=>simp only[ox,Option.some.injEq]at hy;subst hy;rfl
  |some z=>
   simp only[ox]at hy;split at hy
   ·rename_i u hu;simp only[Option.some.injEq]at hy;subst hy;simp[H.ev (fP a) hu]
   ·cases hy
 have WW:=(hS.ow 0 rfl).cp;have nZ:(sizeOf E).run P w=.ok T.z w:=mE hz;refine br.qL (v:=.slice (tR g.a g.c i.toNat T.z) (j.toNat-i.toNat) (g.c-i.toNat)) (w':=w) ?_ ⟨rfl,hS⟩;have hb:(Instr.sliceBounds true q.length g.c qF lC none).run P w=.ok (i.toNat,j.toNat,g.c) w:=by
  have hj:j.toNat≤q.length:=by unfold ln at ez;omega
  have q1:i.toNat≤j.toNat:=by omega
  have q2:j.toNat≤g.c:=by omega
  have q0:=ez.1;have q5:(j:Int)≤(g.c:Int):=by omega
  have q6:0≤j:=by omega
  have q7:=ez.2.1;rcases h2 with⟨rfl,rfl⟩|⟨k',rfl⟩<;>rcases h1 with⟨rfl,rfl⟩|⟨k,rfl⟩
  ·simp[Instr.sliceBounds,ln]
  ·have:i≤(q.length:Int):=ez.2.1;simp[Instr.sliceBounds,Instr.sliceBound,asIntOf,ez.1,this,ln]
  ·simp[Instr.sliceBounds,Instr.sliceBound,asIntOf,q5,q6]
  ·have q8:i≤max j 0:=by omega
   simp[Instr.sliceBounds,Instr.sliceBound,asIntOf,q5,q6,q0,q8]
 simp only[execOp,H.ev (fP a) hx,Instr.sliceAt,Sem.run_bind,run_underlying hu,Result.andThen_ok,Il _ _ Bo,Il _ _ Bp,Option.map_none,Instr.slice,hb,nZ,Sem.run_pure];rfl
end
def zf{α:Type}:List α→Nat→List α→List α
 |q,_,[]=>q
 |q,i,x::r=>zf (q.set i x) (i+1) r
def EL(s:Nat→Nat→Gh)(i:Nat):Nat→(Nat→Nat→Gh)→Nat→Nat→Gh
 |0,_=>s
 |k+1,gs=>EL (λj=>if j=i then gs 0 else s j) (i+1) k (λj=>gs (j+1))
def zg{α:Type}(q:List α)(i:Int)(xs:List α):Int:=(Nat.min xs.length (q.length-i.toNat):Nat)
def pn{α:Type}(q:List α)(i:Int)(xs:List α):List α:=zf q i.toNat (xs.take (Nat.min xs.length (q.length-i.toNat)))
theorem X9{α:Type}:∀(xs q:List α)(i:Nat),(zf q i xs).length=q.length
 |[],_,_=>rfl
 |x::r,q,i=>by rw[zf,X9 r];simp
theorem zh{α:Type}(q:List α)(i:Int)(xs:List α):(pn q i xs).length=q.length:=X9 _ _ _
theorem Xa{α:Type}{R:α→(Nat→Gh)→Prop}:∀(xs q:List α)(i:Nat)(s gs:Nat→Nat→Gh),i+xs.length≤q.length→(∀k (h:k<q.length),R q[k] (s k))→(∀k (h:k<xs.length),R xs[k] (gs k))→
  ∀k (h:k<(zf q i xs).length),R (zf q i xs)[k] (EL s i xs.length gs k)
 |[],q,i,s,gs,_,h1,_,k,h=>h1 k h
 |x::r,q,i,s,gs,hl,h1,h2,k,h=>by
  simp only[List.length_cons]at hl;refine Xa r (q.set i x) (i+1) (λj=>if j=i then gs 0 else s j) (λj=>gs (j+1)) (by simp;omega) (λk' h'=>?_) (λk' h'=>?_) k h
  ·by_cases e:k'=i
   ·subst e;simp only[List.getElem_set_self,if_true];exact h2 0 (by simp)
   ·have h3:k'<q.length:=by simpa using h'
    rw[List.getElem_set_ne (λhe=>e he.symm),if_neg e];exact h1 k' h3
  ·exact h2 (k'+1) (by simpa using h')
theorem ML{α:Type}(T:Ty α)(x:α)(r:List α)(gs:Nat→Nat→Gh):((dN (x::r) gs 0).map (gj T)).flatten=T.aT x (gs 0)++((dN r (λj=>gs (j+1)) 0).map (gj T)).flatten:=by
 simp only[dN,List.map_cons,List.flatten_cons];rw[Qq r gs (λj=>gs (j+1)) (0+1) 0 (λq=>by simp[Nat.add_comm])];rfl
theorem Xb{α:Type}{T:Ty α}(hz:T.z=1):∀(xs q:List α)(i:Nat)(s gs:Nat→Nat→Gh),i+xs.length≤q.length→
  jE ((dN q s 0).map (gj T)).flatten i ((dN xs gs 0).map (gj T)).flatten=((dN (zf q i xs) (EL s i xs.length gs) 0).map (gj T)).flatten
 |[],q,i,s,gs,_=>rfl
 |x::r,q,i,s,gs,hl=>by
  simp only[List.length_cons]at hl;have he:∃v,T.aT x (gs 0)=[v]:=by
   have:=T.len x (gs 0);rw[hz]at this;exact List.length_eq_one_iff.1 this
  obtain⟨v,hv⟩:=he;have hi:i<q.length:=by omega
  have h1:=X3 (T:=T) (l:=q) (s:=s) (x:=x) (gx:=gs 0) (i:=i) (off:=0) (z:=1) (vs:=[v]) (λx g=>by rw[T.len,hz]) hi (by
   have h2:∃u,T.aT q[i] (s i)=[u]:=by
    have:=T.len q[i] (s i);rw[hz]at this;exact List.length_eq_one_iff.1 this
   obtain⟨u,hu⟩:=h2;rw[hu,hv];rfl) (by simp)
  rw[Nat.mul_one,Nat.add_zero]at h1;have h3:=Xb hz r (q.set i x) (i+1) (λj=>if j=i then gs 0 else s j) (λj=>gs (j+1)) (by simp;omega);rw[ML,hv];show jE (((dN q s 0).map (gj T)).flatten.set i v) (i+1) _=_;have h4:((dN q s 0).map (gj T)).flatten.set i v=((dN (q.set i x) (λk=>if k=i then gs 0 else s k) 0).map (gj T)).flatten:=h1;rw[h4];exact h3
theorem Xc{α:Type}{T:Ty α}(hz:T.z=1):∀(xs:List α)(gs:Nat→Nat→Gh)(j:Nat)(h:j<xs.length),(T.aT xs[j] (gs j))[0]?=((dN xs gs 0).map (gj T)).flatten[j]?
 |x::r,gs,0,h=>by
  rw[ML,List.getElem?_append_left (by rw[T.len,hz];decide)];rfl
 |x::r,gs,j+1,h=>by
  rw[ML,List.getElem?_append_right (by rw[T.len,hz];omega),T.len,hz,Nat.add_sub_cancel];exact Xc hz r (λj=>gs (j+1)) j (by simpa using h)
theorem Xd{α:Type}{T:Ty α}:∀(xs:List α)(gs:Nat→Nat→Gh),pg ((dN xs gs 0).map (gj T)).flatten=true
 |[],_=>rfl
 |x::r,gs=>by
  rw[ML];have h1:=T.one x (gs 0);have h2:=Xd (T:=T) r (λj=>gs (j+1));generalize T.aT x (gs 0)=u at*
  induction u with
  |nil=>exact h2
  |cons v t ih=>
   simp only[pg,Bool.and_eq_true,List.cons_append]at h1⊢;exact⟨h1.1,ih h1.2⟩
theorem a3A{α:Type}{e:TypeId}{T:Ty α}{M:Av}{w:World}{q:List α}{g:Gh}(ho:kP e T M w q g){i j:Int}(ez:0≤i∧i≤j∧j≤ln q):∀k (h:k<(eY q i j).length),T.cx M w (eY q i j)[k] (g.s (i.toNat+k)):=λk h=>by
 have h1:i.toNat+k<q.length:=by
  rw[vn q ez]at h;unfold ln at ez;omega
 have h2:(eY q i j)[k]=q[i.toNat+k]:=by simp[eY]
 rw[h2];exact ho.cx _ h1
section
variable {P:Program} {a:Act} {w:World} {n:Nat} {l:SF} {M:Av}
theorem Xe{α:Type}{T:Ty α}{d:Nat}{tx QJ E ty e:TypeId}{x y:Operand}{pos:String}{after:Array Edge}{g gx:Gh}{q xs:List α}{L:List aU}{n0 c0 m0 c1:Nat}{a0 a1:Option Addr}(i:Int)(H:aD D n l a)(hS:S0 M (.own e T q g::L) w)
  (hs:bC T F0 w xs gx)(jU:∀k (h:k<xs.length),T.cx (fK M (.own e T q g::L)) w xs[k] (gx.s k))
  (hx:ev l [] x=some (.slice a0 n0 c0))(ha:a0=tR g.a g.c i.toNat T.z)(hn:q.length-i.toNat=n0)
  (hy:ev l [] y=some (.slice a1 m0 c1))(xo:gx.a=a1)(hm:xs.length=m0)
  (hu:P.underlying tx=some (.slice E))(hz:(P.info? E).map (·.size)=some 1)(vp:T.z=1)(hi:0≤i∧i≤ln q)(_hL:aH L=[]):
  br P ⟨some d,.call ⟨.builtin .copy,#[x,y],#[tx,QJ]⟩,ty,pos,after,none⟩ a w λv w'=>v=.int .i64 (zg q i xs)∧∃s:Nat→Nat→Gh,SH M (aH (.own e T q g::L)) w [.own e T (pn q i xs) (.mk g.a g.c s)] w':=by
 subst ha hn xo hm;have ho:=hS.ow 0 rfl;have hm0:Nat.min xs.length (q.length-i.toNat)≤xs.length:=Nat.min_le_left _ _;have hm1:Nat.min xs.length (q.length-i.toNat)≤q.length-i.toNat:=Nat.min_le_right _ _;have hiq:i.toNat≤q.length:=by unfold ln at hi;omega
 have fin:∀(s:Nat→Nat→Gh)(w':World),Kp (aH (.own e T q g::L)) w w'→Ow e (gj T) T.z w' g.a g.c (dN (pn q i xs) s 0)→
   (∀k (h:k<(pn q i xs).length),T.cx (fK M (.own e T q g::L)) w (pn q i xs)[k] (s k))→SH M (aH (.own e T q g::L)) w [.own e T (pn q i xs) (.mk g.a g.c s)] w':=λs w' hk how MM=>by
  have lo:∀y∈aH [aU.own e T (pn q i xs) (.mk g.a g.c s)],w.heap.size≤y∨y∈aH (.own e T q g::L):=λy hy=>.inr (by
   simp only[aH,List.append_nil]at hy;simp only[aH,List.mem_append];exact .inl hy)
  refine SH.step hS hk (by simp) lo ?_;intro f hf;rw[List.mem_singleton]at hf;subst hf;exact⟨how,λk BE=>T.step hS hk lo (MM k BE)⟩
 generalize xh:Nat.min xs.length (q.length-i.toNat)=m at*;have pj:(xs.take m).length=m:=by rw[List.length_take];omega
 have MM:∀k (h:k<(pn q i xs).length),T.cx (fK M (.own e T q g::L)) w (pn q i xs)[k] (EL g.s i.toNat m gx.s k):=by
  unfold pn;rw[xh];have:=Xa (R:=λx g'=>T.cx (fK M (.own e T q g::L)) w x g') (xs.take m) q i.toNat g.s gx.s (by rw[pj];omega) ho.cx (λk h=>by
   rw[List.getElem_take];exact jU k (by rw[pj]at h;omega))
  rw[pj]at this;exact this
 rcases Nat.eq_zero_or_pos m with h0|h0
 ·
  have hr:=run_copy_none (P:=P) w tx QJ ty E (tR g.a g.c i.toNat T.z) gx.a (q.length-i.toNat) c0 xs.length c1 hu hz (xh.trans h0);have hq:pn q i xs=q:=by unfold pn;rw[xh,h0];rfl
  have yU:EL g.s i.toNat m gx.s=g.s:=by rw[h0];rfl
  refine br.qL (v:=.int .i64 (zg q i xs)) (w':=w) ?_ ⟨rfl,g.s,fin _ _ (Kp.refl _ _) (by rw[hq];exact ho.ow) (by rw[←yU];exact MM)⟩;unfold zg;rw[xh,h0];simp only[execOp,resolve,Sem.run_bind,Sem.run_pure,Result.andThen_ok,invoke,builtin,List.map_toArray,List.map_cons,List.map_nil,H.ev (fP a) hx,H.ev (fP a) hy,hr];rfl
 ·rcases ho.ow.row.2 with⟨h1,qG⟩|⟨b,cap,ph,hv,_,hw,qO,QE,Io,EJ⟩
  ·rw[gJ]at qG;omega
  ·simp only[Value.slice.injEq]at hv;obtain⟨vo,_,MK⟩:=hv;rw[gJ]at qO EJ;rw[vp,Nat.mul_one]at Io EJ;have QF:b<w.heap.size:=by
    rcases Nat.lt_or_ge b w.heap.size with hb|hb
    ·exact hb
    ·rw[Array.getElem?_eq_none hb]at hw;cases hw
   have hsv:tR g.a g.c i.toNat T.z=some ⟨b,i.toNat,none⟩:=by
    unfold tR;rw[if_neg (by rw[MK];omega),vo,vp,Nat.mul_one];show some ((⟨b,0,none⟩:Addr).add i.toNat)=_;unfold Addr.add;simp;omega
   have EK:dE gx.a:=hs.1.ok (by omega);obtain⟨bs,os,Xf⟩:∃bs os,gx.a=some ⟨bs,os,none⟩:=by
    cases hg:gx.a with
    |none=>rw[hg]at EK;simp[dE]at EK
    |some A=>
     rw[hg]at EK;obtain⟨bs,os,r⟩:=A;cases r with
     |none=>exact⟨bs,os,rfl⟩
     |some _=>simp[dE]at EK
   let cs:=((dN (xs.take m) gx.s 0).map (gj T)).flatten
   have EC:cs.length=m:=by
    show((dN (xs.take m) gx.s 0).map (gj T)).flatten.length=m;rw[xk (aT:=gj T) (z:=T.z) (λp=>T.len p.1 p.2),gJ,pj,vp,Nat.mul_one]
   have a3B:∀j v,cs[j]?=some v→w.cell? ((⟨bs,os,none⟩:Addr).add j)=some v:=by
    intro j v hj;have kQ:j<m:=by
     rcases Nat.lt_or_ge j m with h|h
     ·exact h
     ·rw[List.getElem?_eq_none (by omega)]at hj;cases hj
    have hg:=hs.1.get j (by omega) 0 v (by
     rw[←Xc vp (xs.take m) gx.s j (by rw[pj];exact kQ),List.getElem_take]at hj;exact hj)
    rw[Xf,vp,Nat.mul_one,Nat.add_zero]at hg;unfold Addr.add;split
    ·rename_i h0;rw[h0]at hg;exact hg
    ·exact hg
   have hl:=run_loadCells_list (P:=P) w ⟨bs,os,none⟩ cs a3B;obtain⟨w',h2,h3,Ip⟩:=Qy (P:=P) (off:=i.toNat) cs 0 w ph.toList (Xd _ _) (by simpa using hw) (by rw[EC];simp only[Array.length_toList];omega);rw[Nat.add_zero]at Ip;have Bw:Kp (aH (.own e T q g::L)) w w':=h3.wide (by intro y hy;simp only[List.mem_singleton]at hy;subst hy;simp only[aH,List.mem_append];left;simp only[aU.own,vo,gh,List.mem_singleton]);have tN:=Xb (T:=T) vp (xs.take m) q i.toNat g.s gx.s (by rw[pj];omega);rw[pj]at tN;have Ie:zf q i.toNat (xs.take m)=pn q i xs:=by unfold pn;rw[xh]
   rw[Ie]at tN;refine br.qL (v:=.int .i64 (zg q i xs)) (w':=w') ?_ ⟨rfl,EL g.s i.toNat m gx.s,fin _ _ Bw ⟨⟨?_,.inr ⟨b,cap,⟨jE ph.toList i.toNat cs⟩,?_,Nat.zero_le _,by simpa using Ip,?_,QE,?_,?_⟩⟩,?_,?_⟩ MM⟩
   ·have a3C:zg q i xs=(m:Int):=by unfold zg;rw[xh]
    rw[a3C];have hcr:(Builtin.copy_ #[tx,QJ] ty #[.slice (tR g.a g.c i.toNat T.z) (q.length-i.toNat) c0,.slice gx.a xs.length c1]).run P w=.ok (goInt m) w':=by
     rw[hsv,Xf];cases QK:P.info? E with
     |none=>simp[QK]at hz
     |some inf=>
      have MN:inf.size=1:=by simpa[QK]using hz
      rw[EC]at hl;simp[Builtin.copy_,run_underlying hu,Builtin.lenOf,Builtin.firstCells,sizeOf,typeInfo,QK,MN,xh,hl,h2]
    simp only[execOp,resolve,Sem.run_bind,Sem.run_pure,Result.andThen_ok,invoke,builtin,List.map_toArray,List.map_cons,List.map_nil,H.ev (fP a) hx,H.ev (fP a) hy,hcr];rfl
   ·rw[xk (aT:=gj T) (λp=>T.len p.1 p.2),gJ]
   ·rw[vo,MK]
   ·rw[gJ,zh];exact qO
   ·simp[Qz,Io,vp]
   ·rw[gJ,vp,Nat.mul_one,zh];show(jE ph.toList _ _).take q.length=_;rw[QA _ _ _ _ (by rw[EC];omega),EJ,tN]
   ·intro y hy;rw[vo]at hy;simp[gh]at hy;subst hy;exact Nat.lt_of_lt_of_le QF h3.size
   ·rw[gJ,zh];have:=ho.ow.ln;rw[gJ]at this;exact this
end
end
section
variable {M:Av} {X:List Nat} {w0 w w':World} {L La Lr L':List aU}
theorem Iq(A B:List aU):aH (A++B)=aH A++aH B:=by
 induction A with
 |nil=>rfl
 |cons e r ih=>simp[aH,ih]
theorem QL{A B:List aU}(h:A.Perm B){b:Nat}:b∈aH A↔b∈aH B:=by
 rw[oC,oC];exact⟨λ⟨e,he,hb⟩=>⟨e,h.mem_iff.1 he,hb⟩,λ⟨e,he,hb⟩=>⟨e,h.mem_iff.2 he,hb⟩⟩
theorem SH.perm(h:SH M X w0 L w)(hp:L.Perm L'):SH M X w0 L' w:=
 ⟨h.kp,(hp.pairwise_iff (λ{e f} h=>Dj.symm h)).1 h.nd,λb hb=>h.lo b ((QL hp).2 hb),λb hb=>h.nm b ((QL hp).2 hb),h.mx,λe he=>e.cT (h.ps e (hp.mem_iff.2 he)) λb hb=>by
  rcases hb with hb|hb
  ·exact .inl hb
  ·exact .inr ((QL hp).2 hb)⟩
theorem SH.a3D(h:SH M X w0 (La++Lr) w):S0 (fK M Lr) La w:=by
 have hn:=h.nd;rw[List.pairwise_append]at hn;have jU:∀{b:Nat},b∈aH La→b∈aH (La++Lr):=λhb=>by rw[Iq];exact List.mem_append_left _ hb
 have EM:∀{b:Nat},b∈aH Lr→b∈aH (La++Lr):=λhb=>by rw[Iq];exact List.mem_append_right _ hb
 refine⟨Kp.refl _ _,hn.1,λb hb=>.inr hb,λb hb hm=>?_,λb hm=>?_,λe he=>e.cT (h.ps e (List.mem_append_left _ he)) λb hb=>?_⟩
 ·rcases hm with hm|hm
  ·exact h.nm b (jU hb) hm
  ·obtain⟨e,he,Qx⟩:=oC.1 hb;obtain⟨f,hf,QM⟩:=oC.1 hm;exact hn.2.2 e he f hf b Qx QM
 ·rcases hm with hm|hm
  ·exact Nat.lt_of_lt_of_le (h.mx b hm) h.kp.size
  ·exact h.WN (EM hm)
 ·rcases hb with(hb|hb)|hb
  ·exact .inl hb
  ·exact .inr (EM hb)
  ·exact .inr (jU hb)
theorem SH.a3E(h:SH M X w0 (La++Lr) w)(h2:SH (fK M Lr) (aH La) w L' w'):SH M X w0 (L'++Lr) w':=by
 have hn:=h.nd;rw[List.pairwise_append]at hn;have jU:∀{b:Nat},b∈aH La→b∈aH (La++Lr):=λhb=>by rw[Iq];exact List.mem_append_left _ hb
 have EM:∀{b:Nat},b∈aH Lr→b∈aH (La++Lr):=λhb=>by rw[Iq];exact List.mem_append_right _ hb
 have MO:∀{b:Nat},b∈aH (L'++Lr)→b∈aH L'∨b∈aH Lr:=λhb=>by rw[Iq]at hb;exact List.mem_append.1 hb
 refine⟨h.kp.trans h2.kp (λy hy=>?_),?_,λb hb=>?_,λb hb=>?_,h.mx,λe he=>?_⟩
 ·rcases h.lo y (jU hy)with h1|h1
  ·exact .inr h1
  ·exact .inl h1
 ·rw[List.pairwise_append];refine⟨h2.nd,hn.2.1,λe he f hf y hy Qv=>?_⟩;exact h2.nm y (oC.2 ⟨e,he,hy⟩) (.inr (oC.2 ⟨f,hf,Qv⟩))
 ·rcases MO hb with hb|hb
  ·rcases h2.lo b hb with h1|h1
   ·exact .inl (Nat.le_trans h.kp.size h1)
   ·exact h.lo b (jU h1)
  ·exact h.lo b (EM hb)
 ·rcases MO hb with hb|hb
  ·exact λhm=>h2.nm b hb (.inl hm)
  ·exact h.nm b (EM hb)
 ·rcases List.mem_append.1 he with he|he
  ·refine e.cT (h2.ps e he) λb hb=>?_;rcases hb with hb|hb
   ·exact .inl (.inl hb)
   ·rcases MO hb with hb|hb
    ·exact .inr hb
    ·exact .inl (.inr hb)
  ·have hp:=e.fresh (h.ps e (List.mem_append_right _ he));refine e.cT (e.kp hp h2.kp (λb hb=>.inl (.inr (jU hb))) (λb hb Bz=>?_)) λb hb=>?_
   ·obtain⟨f,hf,QM⟩:=oC.1 Bz;exact hn.2.2 f hf e he b QM hb
   ·rcases hb with hb|hb
    ·exact .inl (.inl hb)
    ·rcases MO hb with hb|hb
     ·rcases h2.lo b hb with h1|h1
      ·exact .inr h1
      ·exact .inl (.inr (jU h1))
     ·exact .inl (.inr (EM hb))
end
abbrev Gm:=Nat→Nat→Gh
def dT(y:Gm)(i:Nat)(g:Nat→Gh):Gm:=λj=>cond (Nat.beq j i) g (y j)
theorem a3F(y:Gm)(g:Nat→Gh){i j:Nat}(h:j≠i):dT y i g j=y j:=by
 unfold dT;cases hb:Nat.beq j i with
 |true=>exact absurd (Nat.eq_of_beq_eq_true hb) h
 |false=>rfl
def fZ:Nat→Nat→(Nat→Prop)→Prop
 |0,_,_=>True
 |n+1,i,p=>p i∧fZ n (i+1) p
theorem fZ.get{p:Nat→Prop}:∀{n i:Nat},fZ n i p→∀j,i≤j→j<i+n→p j
 |0,i,_,j,h1,h2=>by omega
 |n+1,i,h,j,h1,h2=>by
  by_cases e:j=i
  ·subst e;exact h.1
  ·exact fZ.get h.2 j (by omega) (by omega)
def eA(all:List Oper)(i:Nat):Option Nat:=(all[i]?).bind (·.dst)
def qQ(n:Nat)(base:SF)(all:List Oper):Bool:=
 (all.all λo=>true&&match o.dst with|some d=>Nat.blt d n&&base.all λe=>e.2.1.isEmpty&&!(Nat.beq e.1 d)|none=>base.all λe=>e.2.1.isEmpty)&&BG (all.map (·.dst))
where BG:List (Option Nat)→Bool
 |[]=>true
 |none::r=>BG r
 |some d::r=>(r.all λq=>match q with|some e=>!(Nat.beq d e)|none=>true)&&BG r
theorem MP:∀{l:List (Option Nat)},qQ.BG l=true→∀(i j:Nat)(d e:Nat),i<j→l[i]?=some (some d)→l[j]?=some (some e)→d≠e
 |[],_,i,j,d,e,_,h,_=>by simp at h
 |none::r,hn,i,j,d,e,ez,h1,h2=>by
  match i,j,ez with
  |0,_,_=>simp at h1
  |i+1,j+1,ez=>exact MP (l:=r) (by simpa[qQ.BG]using hn) i j d e (by omega) (by simpa using h1) (by simpa using h2)
 |some x::r,hn,i,j,d,e,ez,h1,h2=>by
  have Xg:(r.all λq=>match q with|some e=>!(Nat.beq x e)|none=>true)=true∧qQ.BG r=true:=by simpa[qQ.BG]using hn
  match i,j,ez with
  |0,j+1,_=>
   have hx:x=d:=by simpa using h1
   subst hx;have:=(List.all_eq_true.1 Xg.1) (some e) (List.mem_of_getElem? (by simpa using h2));intro hde;subst hde;simp at this
  |i+1,j+1,ez=>exact MP (l:=r) Xg.2 i j d e (by omega) (by simpa using h1) (by simpa using h2)
def de(N:Nat)(ress:Gm→List (List aU))(L:List aU)(y:Gm):List Nat→List aU
 |[]=>[]
 |j::r=>(cond (Nat.blt j N) ((ress y).getD j []) [L.getD (j-N) .none])++de N ress L y r
def iS(l:List Nat)(j:Nat):Bool:=l.any λk=>Nat.beq k j
theorem pR{l:List Nat}{j:Nat}:iS l j=true↔j∈l:=by
 unfold iS;rw[List.any_eq_true];exact⟨λ⟨k,hk,h⟩=>by rw[←Nat.eq_of_beq_eq_true h];exact hk,λh=>⟨j,h,by simp⟩⟩
def nodupB:List Nat→Bool
 |[]=>true
 |k::r=>!iS r k&&nodupB r
theorem Xh:∀{l:List Nat},nodupB l=true→l.Nodup
 |[],_=>List.nodup_nil
 |k::r,h=>by
  unfold nodupB at h;rw[Bool.and_eq_true]at h;rw[List.nodup_cons];refine⟨λhk=>?_,Xh h.2⟩;rw[pR.2 hk]at h;simp at h
def xp(N m:Nat)(all:List Oper)(use cons cJ:List (List Nat)):Bool:=
 (List.range N).all λi=>
  nodupB (use.getD i [])&&
  ((use.getD i []).all λj=>Nat.blt j (N+m)&&(!(Nat.blt j N)||reach all N i j)&&(List.range N).all λk=>!(iS (cons.getD k []) j)||Nat.beq k i||reach all N k i)&&
  ((cons.getD i []).all λj=>iS (use.getD i []) j)&&
  ((cJ.getD i []).all λj=>Nat.beq j i||reach all N i j)&&
  ((List.range N).all λk=>Nat.beq k i||(cons.getD k []).all λj=>!(iS (cons.getD i []) j))
def fB(listed:Array Bool)(k:Nat):Bool:=listed.getD k false
def qR(N:Nat)(cons:List (List Nat))(listed:Array Bool)(j:Nat):Bool:=(List.range N).any λk=>fB listed k&&iS (cons.getD k []) j
def lX(N m:Nat)(cons:List (List Nat))(listed:Array Bool):List Nat:=(List.range (N+m)).filter λj=>(!(Nat.blt j N)||fB listed j)&&!(qR N cons listed j)
def tT(N m:Nat)(cons:List (List Nat)):List Nat:=(List.range (N+m)).filter λj=>!((List.range N).any λk=>iS (cons.getD k []) j)
section
variable {N:Nat} {ress:Gm→List (List aU)} {L:List aU} {y:Gm}
theorem Xi(A B:List Nat):de N ress L y (A++B)=de N ress L y A++de N ress L y B:=by
 induction A with
 |nil=>rfl
 |cons j r ih=>simp[de,ih]
theorem Xj{A B:List Nat}(h:A.Perm B):(de N ress L y A).Perm (de N ress L y B):=by
 induction h with
 |nil=>exact List.Perm.nil
 |cons x _ ih=>exact List.Perm.append_left _ ih
 |swap x z l=>
  simp only[de,←List.append_assoc];exact List.Perm.append_right _ List.perm_append_comm
 |trans _ _ h1 h2=>exact h1.trans h2
theorem a3G{y':Gm}{A:List Nat}(h:∀j∈A,Nat.blt j N=true→(ress y).getD j []=(ress y').getD j []):de N ress L y A=de N ress L y' A:=by
 induction A with
 |nil=>rfl
 |cons j r ih=>
  simp only[de];rw[ih λk hk=>h k (List.mem_cons_of_mem _ hk)];congr 1;cases hb:Nat.blt j N with
  |true=>simp only[cond_true];exact h j List.mem_cons_self hb
  |false=>rfl
end
def xq(N:Nat)(all:List Oper)(eL:List (Nat×Nat×Value)):Bool:=
 eL.all λe=>Nat.blt e.2.1 N&&(List.range N).all λi=>Nat.beq i e.2.1||!(eA all i==some e.1)
structure DI{n:Nat}(N m:Nat)(base:SF)(all:List Oper)(cons:List (List Nat))(c9:Gm→List Value)(ress:Gm→List (List aU))(L:List aU)(eL:List (Nat×Nat×Value))(M:Av)(X:List Nat)(wE:World)(listed:Array Bool)(a:Act)(w:World)(y:Gm):Prop where
 size:listed.size=N
 fr:aD [] n base a
 did:∀i,fB listed i=true→∀d,eA all i=some d→a.tmps[d]?=some ((c9 y).getD i undef)
 cl:∀(i:Nat)(o:Oper),fB listed i=true→all[i]?=some o→∀e∈o.after,Region.binds .any e=true→fB listed e.on=true
 sh:SH M X wE (de N ress L y (lX N m cons listed)) w
 od:∀(k:Nat) e,eL[k]?=some e→fB listed e.2.1=false→a.tmps[e.1]?=some e.2.2
theorem Ir{l:List Nat}(p:Nat→Bool)(h:l.Nodup):(l.filter p).Nodup:=List.Pairwise.filter p h
theorem nt{b:Bool}:(!b)=true↔¬b=true:=by cases b<;>simp
theorem Xk{j N:Nat}:Nat.blt j N=true↔j<N:=by simp[Nat.blt,Nat.lt_iff_add_one_le]
theorem pS{listed:Array Bool}{i:Nat}:fB listed i=true↔listed[i]?=some true:=by
 unfold fB;rw[Array.getD_eq_getD_getElem?];cases h:listed[i]? with
 |none=>simp
 |some b=>simp
@[reducible] def tU (o:Oper):Oper:=match o with
 |⟨d,op,ty,pos,after,_⟩=>⟨d,op,ty,pos,after,none⟩
def rJ(all:List Oper)(c9:Gm→List Value)(cJ:List (List Nat))(i:Nat):Option (Nat×Bool)→Prop
 |none=>True
 |some (j,b)=>(iS (cJ.getD i []) j&&!(Nat.beq j i)&&(eA all j).isSome)=true∧∀y,(c9 y).getD j undef=.bool b
def Is(all:List Oper)(c9:Gm→List Value)(ress:Gm→List (List aU))(use cJ:List (List Nat))(i:Nat):Option (Nat×Bool)→Prop
 |none=>False
 |some (j,b)=>(iS (cJ.getD i []) j&&!(Nat.beq j i)&&(eA all j).isSome)=true∧((∀y,(c9 y).getD j undef=.bool (!b))∨∀y,(c9 y).getD j undef=undef)∧(∀y,(c9 y).getD i undef=undef∧(ress y).getD i []=[])∧use.getD i []=[]
theorem fZ.and{p q:Nat→Prop}:∀{n i:Nat},fZ n i p→fZ n i q→fZ n i λi=>p i∧q i
 |0,_,_,_=>trivial
 |_+1,_,h,k=>⟨⟨h.1,k.1⟩,fZ.and h.2 k.2⟩
theorem fZ.imp{p q:Nat→Prop}(f:∀i,p i→q i):∀{n i:Nat},fZ n i p→fZ n i q
 |0,_,_=>trivial
 |_+1,i,h=>⟨f i h.1,fZ.imp f h.2⟩
theorem po{all:List Oper}{c9:Gm→List Value}{cJ:List (List Nat)}(h:(all.all λo=>o.guard.isNone)=true):∀n i,fZ n i λi=>rJ all c9 cJ i ((all[i]?).bind (·.guard))
 |0,_=>trivial
 |n+1,i=>by
  refine⟨?_,po h n (i+1)⟩;show rJ all c9 cJ i ((all[i]?).bind (·.guard));cases hi:all[i]? with
  |none=>trivial
  |some o=>
   have:=List.all_eq_true.1 h o (List.mem_of_getElem? hi);have h2:o.guard=none:=by simpa using this
   show rJ all c9 cJ i o.guard;rw[h2];trivial
theorem Xl{P:Program}{n id:Nat}{all:List Oper}{Q:Exit→Act→World→Prop}{a:Act}{w wE:World}{base:SF}{M:Av}{X:List Nat}{L:List aU}(N m:Nat)(c9:Gm→List Value)(ress:Gm→List (List aU))(use cons cJ:List (List Nat))(eL:List (Nat×Nat×Value))
  (H:aD [] n base a)(hold:∀(k:Nat) e,eL[k]?=some e→a.tmps[e.1]?=some e.2.2)(nq:xq N all eL=true)(hS:SH M X wE L w)(hm:P.follows .mixedOrders=true)(hN:all.length=N)(hL:L.length=m)(gQ:qQ n base all=true)(jT:xm all=true)(oE:xp N m all use cons cJ=true)
  (tV:fZ N 0 λj=>∀(y:Gm)(i:Nat)(g:Nat→Gh),i∉cJ.getD j []→(c9 (dT y i g)).getD j undef=(c9 y).getD j undef∧(ress (dT y i g)).getD j []=(ress y).getD j [])
  (hA:fZ N 0 λi=>Is all c9 ress use cJ i ((all[i]?).bind (·.guard))∨(rJ all c9 cJ i ((all[i]?).bind (·.guard))∧∀o,all[i]?=some o→∀a' w' y M',aD [] n base a'→(∀j∈cJ.getD i [],j≠i→∀d,eA all j=some d→a'.tmps[d]?=some ((c9 y).getD j undef))→(∀(k:Nat) e,eL[k]?=some e→(Nat.beq e.2.1 i||reach all N e.2.1 i)=true→a'.tmps[e.1]?=some e.2.2)→S0 M' (de N ress L y (use.getD i [])) w'→
   br P (tU o) a' w' λv w2=>∃g:Nat→Gh,(∀d,eA all i=some d→v=(c9 (dT y i g)).getD i undef)∧SH M' (aH (de N ress L y (use.getD i []))) w' ((ress (dT y i g)).getD i []++de N ress L y ((use.getD i []).filter λj=>!(iS (cons.getD i []) j))) w2))
  (hK:∀a' w' y,aD [] n base a'→(∀i d,eA all i=some d→a'.tmps[d]?=some ((c9 y).getD i undef))→SH M X wE (de N ress L y (tT N m cons)) w'→Q .normal a' w'):
  (Code.region id all.toArray true).wp P Q a w:=by
 subst hN;have Xm:∀(y:Gm)(i:Nat)(g:Nat→Gh)(j:Nat),j<all.length→i∉cJ.getD j []→(c9 (dT y i g)).getD j undef=(c9 y).getD j undef∧(ress (dT y i g)).getD j []=(ress y).getD j []:=λy i g j hj=>tV.get j (by omega) (by omega) y i g;unfold qQ at gQ;rw[Bool.and_eq_true,List.all_eq_true]at gQ;obtain⟨a3H,Xn⟩:=gQ;have a3I:∀i o,all[i]?=some o→True∧o.dst=eA all i∧(∀e∈base,e.2.1=[])∧∀d,eA all i=some d→Nat.blt d n=true∧∀e∈base,e.1≠d:=by
  intro i o ho;have h1:=a3H o (List.mem_of_getElem? ho);rw[Bool.and_eq_true]at h1;obtain⟨h2,h3⟩:=h1;have e1:eA all i=o.dst:=by simp[eA,ho]
  rw[e1];cases hd:o.dst with
  |none=>
   simp only[hd,List.all_eq_true]at h3;exact⟨trivial,rfl,λe he=>by have:=h3 e he;simpa using this,λd hd=>by cases hd⟩
  |some d=>
   simp only[hd,Bool.and_eq_true,List.all_eq_true]at h3;refine⟨trivial,rfl,λe he=>?_,λd' hd'=>?_⟩
   ·have:=h3.2 e he;simp only[List.isEmpty_iff]at this;exact this.1
   ·cases hd';refine⟨h3.1,λe he=>?_⟩;have:=h3.2 e he;simp only[Bool.not_eq_true']at this;exact Nat.ne_of_beq_eq_false this.2
 have a3J:∀i j d e,i≠j→eA all i=some d→eA all j=some e→d≠e:=by
  intro i j d e ez h1 h2;have g1:(all.map (·.dst))[i]?=some (some d):=by
   unfold eA at h1;rw[List.getElem?_map];cases hx:all[i]? with
   |none=>rw[hx]at h1;cases h1
   |some o=>rw[hx]at h1;simpa using h1
  have g2:(all.map (·.dst))[j]?=some (some e):=by
   unfold eA at h2;rw[List.getElem?_map];cases hx:all[j]? with
   |none=>rw[hx]at h2;cases h2
   |some o=>rw[hx]at h2;simpa using h2
  rcases Nat.lt_or_gt_of_ne ez with hH|hH
  ·exact MP Xn i j d e hH g1 g2
  ·exact λh=>MP Xn j i e d hH g2 g1 h.symm
 have a3K:∀i o,all[i]?=some o→∀e∈o.after,Region.binds .any e=true→e.on<i:=by
  intro i o ho e he hb;have hi:i<all.length:=(List.getElem?_eq_some_iff.1 ho).1;have h1:=(List.all_eq_true.1 jT) i (List.mem_range.2 hi);rw[ho]at h1;have h2:=(List.all_eq_true.1 h1) e (by simpa using he);rw[hb]at h2;simpa[Nat.blt,Nat.lt_iff_add_one_le]using h2
 -- what was checked
 have QN:∀i,i<all.length→(use.getD i []).Nodup∧(∀j∈use.getD i [],j<all.length+m∧(j<all.length→reach all all.length i j=true)∧∀k,k<all.length→j∈cons.getD k []→k=i∨reach all all.length k i=true)∧
   (∀j∈cons.getD i [],j∈use.getD i [])∧(∀j∈cJ.getD i [],j=i∨reach all all.length i j=true)∧∀k,k<all.length→k≠i→∀j∈cons.getD k [],j∉cons.getD i []:=by
  intro i hi;have h1:=(List.all_eq_true.1 oE) i (List.mem_range.2 hi);simp only[Bool.and_eq_true]at h1;obtain⟨⟨⟨⟨h1,h2⟩,h3⟩,h4⟩,h5⟩:=h1;refine⟨Xh h1,λj hj=>?_,λj hj=>pR.1 ((List.all_eq_true.1 h3) j hj),λj hj=>?_,λk hk hki j hj xr=>?_⟩
  ·have:=(List.all_eq_true.1 h2) j hj;simp only[Bool.and_eq_true,Bool.or_eq_true,Bool.not_eq_true']at this;obtain⟨⟨p1,p2⟩,p3⟩:=this;refine⟨by simpa[Nat.blt,Nat.lt_iff_add_one_le]using p1,λEN=>?_,λk hk hjk=>?_⟩
   ·rcases p2 with p2|p2
    ·have:Nat.blt j all.length=true:=by simpa[Nat.blt,Nat.lt_iff_add_one_le]using EN
     rw[this]at p2;cases p2
    ·exact p2
   ·have:=(List.all_eq_true.1 p3) k (List.mem_range.2 hk);simp only[Bool.or_eq_true,Bool.not_eq_true']at this;rcases this with(q|q)|q
    ·rw[pR.2 hjk]at q;cases q
    ·exact .inl (Nat.eq_of_beq_eq_true q)
    ·exact .inr q
  ·have:=(List.all_eq_true.1 h4) j hj;simp only[Bool.or_eq_true]at this;rcases this with q|q
   ·exact .inl (Nat.eq_of_beq_eq_true q)
   ·exact .inr q
  ·have:=(List.all_eq_true.1 h5) k (List.mem_range.2 hk);simp only[Bool.or_eq_true]at this;rcases this with q|q
   ·exact hki (Nat.eq_of_beq_eq_true q)
   ·have:=(List.all_eq_true.1 q) j hj;rw[pR.2 xr]at this;cases this
 refine wp_region_any hm ?_;have Xo:∀(listed:Array Bool)(a':Act)(w':World)(y:Gm),DI (n:=n) all.length m base all cons c9 ress L eL M X wE listed a' w' y→Region.ready .any all.toArray listed=[]→Q .normal a' w':=by
  intro listed a' w' y hI hr;have BH:∀i,i<all.length→fB listed i=true:=by
   intro i
   induction i using Nat.strongRecOn with
   |_ i ih=>
    intro hi;have Xp:i<listed.size:=by rw[hI.size];exact hi
    cases hb:listed[i]with
    |true=>rw[pS,Array.getElem?_eq_getElem Xp,hb]
    |false=>
     exfalso;have:i∈Region.ready .any all.toArray listed:=by
      rw[mem_ready];refine⟨by simp[Xp,hb],all[i],by simp[hi],λe he Ia=>?_⟩;have hH:=a3K i all[i] (List.getElem?_eq_getElem hi) e he Ia;exact ih e.on hH (by omega)
     rw[hr]at this;cases this
  have tN:lX all.length m cons listed=tT all.length m cons:=by
   unfold lX tT;apply List.filter_congr;intro j _;have h1:(!(Nat.blt j all.length)||fB listed j)=true:=by
    cases hb:Nat.blt j all.length with
    |false=>rfl
    |true=>simp only[Bool.not_true,Bool.false_or];exact BH j (by simpa[Nat.blt,Nat.lt_iff_add_one_le]using hb)
   rw[h1,Bool.true_and];congr 1;unfold qR;rw[Bool.eq_iff_iff,List.any_eq_true,List.any_eq_true];constructor
   ·rintro⟨k,hk,h⟩;rw[Bool.and_eq_true]at h;exact⟨k,hk,h.2⟩
   ·rintro⟨k,hk,h⟩;exact⟨k,hk,by rw[BH k (List.mem_range.1 hk),h];rfl⟩
  refine hK a' w' y hI.fr (λi d hd=>hI.did i (BH i ?_) d hd) (tN▸hI.sh);unfold eA at hd;rcases Nat.lt_or_ge i all.length with h|h
  ·exact h
  ·rw[List.getElem?_eq_none h]at hd;cases hd
 have key:∀(BI:Nat)(listed:Array Bool)(a':Act)(w':World)(y:Gm),DI (n:=n) all.length m base all cons c9 ress L eL M X wE listed a' w' y→listed.toList.count false=BI→wpAny P .any all.toArray Q BI listed a' w':=by
  intro BI
  induction BI with
  |zero=>
   intro listed a' w' y hI hc;have Xq:Region.ready .any all.toArray listed=[]:=by
    rw[List.eq_nil_iff_forall_not_mem];intro i hi;have h1:=(mem_ready.1 hi).1;have h2:=List.count_eq_zero.1 hc;have hH:i<listed.size:=by
     rcases Nat.lt_or_ge i listed.size with h|h
     ·exact h
     ·simp[Array.getD_eq_getD_getElem?,Array.getElem?_eq_none h]at h1
    apply h2;simp[Array.getD_eq_getD_getElem?,hH]at h1;rw[←h1];simp
   exact⟨Xq,Xo listed a' w' y hI Xq⟩
  |succ BI ih=>
   intro listed a' w' y hI hc;refine⟨Xo listed a' w' y hI,λi hi=>?_⟩;obtain⟨Xr,o,ho,BH⟩:=mem_ready.1 hi;have hH:i<listed.size:=by
    rcases Nat.lt_or_ge i listed.size with h|h
    ·exact h
    ·simp[Array.getD_eq_getD_getElem?,Array.getElem?_eq_none h]at Xr
   have Xs:listed[i]=false:=by simpa[Array.getD_eq_getD_getElem?,hH]using Xr
   have MQ:all[i]?=some o:=by simpa using ho
   obtain⟨_,hd,a3L,Xt⟩:=a3I i o MQ;have EO:i<all.length:=by rw[←hI.size];exact hH
   obtain⟨c1,c2,c3,c4,c5⟩:=QN i EO;have Xu:∀e∈o.after,Region.binds .any e=true→listed[e.on]?=some true:=λe he hb=>pS.1 (BH e he hb);have QO:∀(i:Nat)(o:Oper),listed[i]?=some true→all[i]?=some o→∀e∈o.after,Region.binds .any e=true→listed[e.on]?=some true:=λi o h1 h2 e he hb=>pS.1 (hI.cl i o (pS.2 h1) h2 e he hb);have MR:∀j,reach all all.length i j=true→fB listed j=true:=λj hj=>pS.2 (Qo QO _ i j o MQ Xu hj);have EP:fB listed i=false:=by
    cases hb:fB listed i with
    |false=>rfl
    |true=>rw[pS,Array.getElem?_eq_getElem hH,Xs]at hb;cases hb
   have MS:∀k,fB listed k=true→reach all all.length k i=true→False:=by
    intro k hk hr;have hkl:k<all.length:=by
     rw[←hI.size];rcases Nat.lt_or_ge k listed.size with h|h
     ·exact h
     ·rw[pS,Array.getElem?_eq_none h]at hk;cases hk
    have gQ:all[k]?=some all[k]:=List.getElem?_eq_getElem hkl;have:=pS.2 (Qo QO _ k i all[k] gQ (λe he hb=>QO k _ (pS.1 hk) gQ e he hb) hr);rw[EP]at this;cases this
   -- what is used is there
   have It:∀j∈use.getD i [],j∈lX all.length m cons listed:=by
    intro j hj;obtain⟨q1,q2,q3⟩:=c2 j hj;unfold lX;rw[List.mem_filter,List.mem_range,Bool.and_eq_true];refine⟨q1,?_,?_⟩
    ·rcases Nat.lt_or_ge j all.length with h|h
     ·rw[MR j (q2 h)];simp
     ·have:Nat.blt j all.length=false:=by
       cases hb:Nat.blt j all.length with
       |false=>rfl
       |true=>
        have:j<all.length:=by simpa[Nat.blt,Nat.lt_iff_add_one_le]using hb
        omega
      rw[this];rfl
    ·cases hb:qR all.length cons listed j with
     |false=>rfl
     |true=>
      exfalso;unfold qR at hb;rw[List.any_eq_true]at hb;obtain⟨k,hk,hb⟩:=hb;rw[Bool.and_eq_true]at hb;rcases q3 k (List.mem_range.1 hk) (pR.1 hb.2)with rfl|hr
      ·rw[EP]at hb;cases hb.1
      ·exact MS k hb.1 hr
   have QP:(lX all.length m cons listed).Nodup:=Ir _ List.nodup_range
   let U:=use.getD i []
   let C:=cons.getD i []
   let R:=(lX all.length m cons listed).filter λj=>!(iS U j)
   have hpu:(lX all.length m cons listed).Perm (U++R):=by
    rw[List.perm_ext_iff_of_nodup QP]
    ·intro j;rw[List.mem_append,List.mem_filter];constructor
     ·intro hj;by_cases Xv:j∈U
      ·exact .inl Xv
      ·refine .inr ⟨hj,?_⟩;cases hb:iS U j with
       |false=>rfl
       |true=>exact absurd (pR.1 hb) Xv
     ·rintro(hj|hj)
      ·exact It j hj
      ·exact hj.1
    ·rw[List.nodup_append];refine⟨c1,Ir _ QP,λx hx z hz e=>?_⟩;subst e;rw[List.mem_filter,pR.2 hx]at hz;cases hz.2
   have MT:=hI.sh.perm (Xj (N:=all.length) (ress:=ress) (L:=L) (y:=y) hpu);rw[Xi]at MT;have hh:=MT.a3D;have a3M:∀(k:Nat) e,eL[k]?=some e→(Nat.beq e.2.1 i||reach all all.length e.2.1 i)=true→a'.tmps[e.1]?=some e.2.2:=by
    intro k e he hr;refine hI.od k e he ?_;rw[Bool.or_eq_true]at hr;rcases hr with hr|hr
    ·rw[Nat.eq_of_beq_eq_true hr];exact EP
    ·cases hb:fB listed e.2.1 with
     |false=>rfl
     |true=>exact(MS e.2.1 hb hr).elim
   have fin:∀(v:Value)(w2:World)(g:Nat→Gh),(∀d,eA all i=some d→v=(c9 (dT y i g)).getD i undef)→SH (fK M (de all.length ress L y R)) (aH (de all.length ress L y U)) w' ((ress (dT y i g)).getD i []++de all.length ress L y (U.filter λj=>!(iS C j))) w2→
     wpAny P .any all.toArray Q BI (listed.setIfInBounds i true) (a'.put (eA all i) v) w2:=by
    intro v w2 g hv QQ;have vq:∀j:Nat,fB (listed.setIfInBounds i true) j=true↔j=i∨fB listed j=true:=by
     intro j;rw[pS,pS,Array.getElem?_setIfInBounds];by_cases e:i=j
     ·subst e;simp[hH]
     ·rw[if_neg e];exact⟨λh=>.inr h,λh=>h.resolve_left λx=>e x.symm⟩
    have Xw:∀j,fB listed j=true→j<all.length:=by
     intro j hj;rw[←hI.size];rcases Nat.lt_or_ge j listed.size with h|h
     ·exact h
     ·rw[pS,Array.getElem?_eq_none h]at hj;cases hj
    -- the others stand on nothing of this one
    have BJ:∀j,fB listed j=true→i∉cJ.getD j []:=by
     intro j hj Ig;obtain⟨_,_,_,d4,_⟩:=QN j (Xw j hj);rcases d4 i Ig with e|hr
     ·subst e;rw[EP]at hj;cases hj
     ·exact MS j hj hr
    have Xx:∀j,j∈lX all.length m cons listed→j<all.length→fB listed j=true:=by
     intro j hj EN;unfold lX at hj;rw[List.mem_filter,Bool.and_eq_true]at hj;have hb:Nat.blt j all.length=true:=by simpa[Nat.blt,Nat.lt_iff_add_one_le]using EN
     have:=hj.2.1;rw[hb]at this;simpa using this
    have Xy:∀A:List Nat,(∀j∈A,j∈lX all.length m cons listed)→de all.length ress L y A=de all.length ress L (dT y i g) A:=by
     intro A hA;refine a3G λj hj hb=>?_;have EN:j<all.length:=by simpa[Nat.blt,Nat.lt_iff_add_one_le]using hb
     exact(Xm y i g j EN (BJ j (Xx j (hA j hj) EN))).2.symm
    have a3N:=MT.a3E QQ
    let K:=U.filter λj=>!(iS C j)
    have e1:de all.length ress L y K=de all.length ress L (dT y i g) K:=Xy K λj hj=>It j (List.mem_filter.1 hj).1;have e2:de all.length ress L y R=de all.length ress L (dT y i g) R:=Xy R λj hj=>(List.mem_filter.1 hj).1;have hbi:Nat.blt i all.length=true:=by simpa[Nat.blt,Nat.lt_iff_add_one_le]using EO
    have e3:(ress (dT y i g)).getD i []++de all.length ress L (dT y i g) K++de all.length ress L (dT y i g) R=de all.length ress L (dT y i g) (i::(K++R)):=by
     simp only[de,hbi,cond_true,Xi,List.append_assoc]
    have a3O:SH M X wE (de all.length ress L (dT y i g) (i::(K++R))) w2:=by
     rw[←e3,←e1,←e2];exact a3N
    have QB:(i::(K++R)).Perm (lX all.length m cons (listed.setIfInBounds i true)):=by
     have a3P:∀j,qR all.length cons (listed.setIfInBounds i true) j=true↔j∈C∨qR all.length cons listed j=true:=by
      intro j;unfold qR;rw[List.any_eq_true,List.any_eq_true];constructor
      ·rintro⟨k,hk,h⟩;rw[Bool.and_eq_true,vq]at h;rcases h.1 with rfl|h1
       ·exact .inl (pR.1 h.2)
       ·exact .inr ⟨k,hk,by rw[h1,h.2];rfl⟩
      ·rintro(h|⟨k,hk,h⟩)
       ·exact⟨i,List.mem_range.2 EO,by rw[Bool.and_eq_true,vq];exact⟨.inl rfl,pR.2 h⟩⟩
       ·rw[Bool.and_eq_true]at h;exact⟨k,hk,by rw[Bool.and_eq_true,vq];exact⟨.inr h.1,h.2⟩⟩
     have QR:i∉lX all.length m cons listed:=by
      intro h;have:=Xx i h EO;rw[EP]at this;cases this
     have hiC:¬(i∈C∨qR all.length cons listed i=true):=by
      rintro(h|h)
      ·exact QR (It i (c3 i h))
      ·unfold qR at h;rw[List.any_eq_true]at h;obtain⟨k,hk,h⟩:=h;rw[Bool.and_eq_true]at h;obtain⟨_,d2,d3,_,_⟩:=QN k (List.mem_range.1 hk);have EQ:=d3 i (pR.1 h.2);exact MS k h.1 ((d2 i EQ).2.1 EO)
     rw[List.perm_ext_iff_of_nodup]
     ·intro j;have a3Q:j∈lX all.length m cons (listed.setIfInBounds i true)↔j<all.length+m∧((¬j<all.length)∨j=i∨fB listed j=true)∧¬(j∈C∨qR all.length cons listed j=true):=by
       unfold lX;rw[List.mem_filter,List.mem_range,Bool.and_eq_true,Bool.or_eq_true,vq,nt,nt,a3P,Xk]
      have QS:j∈lX all.length m cons listed↔j<all.length+m∧((¬j<all.length)∨fB listed j=true)∧¬(qR all.length cons listed j=true):=by
       unfold lX;rw[List.mem_filter,List.mem_range,Bool.and_eq_true,Bool.or_eq_true,nt,nt,Xk]
      rw[a3Q,List.mem_cons,List.mem_append,List.mem_filter,List.mem_filter];have Xz:∀(l:List Nat),(!(iS l j))=true↔j∉l:=λl=>by
       rw[Bool.not_eq_true',←pR (l:=l)];simp
      rw[Xz,Xz];constructor
      ·rintro(rfl|⟨h1,h2⟩|⟨h1,h2⟩)
       ·exact⟨by omega,.inr (.inl rfl),hiC⟩
       ·obtain⟨p1,p2,p3⟩:=QS.1 (It j h1);refine⟨p1,p2.imp_right .inr,?_⟩;rintro(h|h)
        ·exact h2 h
        ·exact p3 h
       ·obtain⟨p1,p2,p3⟩:=QS.1 h1;refine⟨p1,p2.imp_right .inr,?_⟩;rintro(h|h)
        ·exact h2 (c3 j h)
        ·exact p3 h
      ·rintro⟨p1,p2,p3⟩;by_cases e:j=i
       ·exact .inl e
       ·right;have Q3:j∈lX all.length m cons listed:=QS.2 ⟨p1,p2.imp_right λh=>h.resolve_left e,λh=>p3 (.inr h)⟩;by_cases hu:j∈U
        ·exact .inl ⟨hu,λh=>p3 (.inl h)⟩
        ·exact .inr ⟨Q3,hu⟩
     ·rw[List.nodup_cons,List.nodup_append];refine⟨λh=>?_,Ir _ c1,Ir _ QP,λx hx z hz e=>?_⟩
      ·rw[List.mem_append,List.mem_filter,List.mem_filter]at h;rcases h with h|h
       ·exact QR (It i h.1)
       ·exact QR h.1
      ·subst e;rw[List.mem_filter]at hx hz;rw[pR.2 hx.1]at hz;cases hz.2
     ·exact Ir _ List.nodup_range
    refine ih (listed.setIfInBounds i true) (a'.put (eA all i) v) w2 (dT y i g) ⟨by simp[hI.size],?_,?_,?_,a3O.perm (Xj QB),?_⟩ ?_
    ·cases ER:eA all i with
     |none=>exact hI.fr
     |some d=>
      obtain⟨hdn,Ia⟩:=Xt d ER;have h1:aD [] n (qE base d [] v) (a'.put (some d) v):=aD.set (H:=hI.fr) hdn;refine⟨h1.1,h1.2.1,λe he=>?_⟩;have BF:=a3L e he;have jD:=Ia e he;have h2:=hI.fr.2.2 e he;rw[BF]at h2⊢;refine⟨λ_=>?_,λx=>absurd (fP _) x⟩;rw[Er jD];exact h2.1 (fP _)
    ·intro j hj d tW;rcases(vq j).1 hj with e1|xr
     ·subst e1;have nZ:d<a'.tmps.size:=by
       have h1:=hI.fr.2.1;have:d<n:=by simpa[Nat.blt,Nat.lt_iff_add_one_le]using(Xt d tW).1
       omega
      rw[hv d tW,tW];simp[Act.put,nZ]
     ·have jD:j≠i:=λe=>by subst e;rw[EP]at xr;cases xr
      have XB:=hI.did j xr d tW;rw[(Xm y i g j (Xw j xr) (BJ j xr)).1];cases ER:eA all i with
      |none=>exact XB
      |some d2=>
       rw[Er (a3J j i d d2 jD tW ER)];exact XB
    ·intro j oj hj QT e he hb;rcases(vq j).1 hj with e1|xr
     ·subst e1;rw[MQ]at QT;cases QT;exact(vq _).2 (.inr (pS.2 (Xu e he hb)))
     ·exact(vq _).2 (.inr (hI.cl j oj xr QT e he hb))
    ·intro k e he hl;have jD:e.2.1≠i∧fB listed e.2.1=false:=by
      refine⟨λh=>?_,?_⟩
      ·rw[h,(vq i).2 (.inl rfl)]at hl;cases hl
      ·cases hb:fB listed e.2.1 with
       |false=>rfl
       |true=>rw[(vq _).2 (.inr hb)]at hl;cases hl
     have h0:=hI.od k e he jD.2;have h1:=(List.all_eq_true.1 nq) e (List.mem_of_getElem? he);rw[Bool.and_eq_true]at h1;have h2:=(List.all_eq_true.1 h1.2) i (List.mem_range.2 EO);rw[Bool.or_eq_true]at h2;have h3:¬eA all i=some e.1:=by
      rcases h2 with h2|h2
      ·exact absurd (Nat.eq_of_beq_eq_true h2).symm jD.1
      ·simpa using h2
     cases ER:eA all i with
     |none=>exact h0
     |some d=>
      rw[Er (λh=>h3 (by rw[ER,h]))];exact h0
    ·rw[Array.toList_setIfInBounds,List.count_set (by simpa using hH)];simp[Xs,hc]
   have XC:=hA.get i (by omega) (by omega);rw[MQ]at XC;unfold wpOp;rw[ho];rcases XC with ET|⟨MU,QU⟩
   ·replace ET:Is all c9 ress use cJ i o.guard:=ET;have QV:Region.wanted o (yielded all.toArray a'.tmps)=false∧(∀y,(c9 y).getD i undef=undef∧(ress y).getD i []=[])∧U=[]:=by
     cases zi:o.guard with
     |none=>rw[zi]at ET;exact ET.elim
     |some jb=>
      obtain⟨j,b⟩:=jb;rw[zi]at ET;obtain⟨g1,g2,g3,g4⟩:=ET;rw[Bool.and_eq_true,Bool.and_eq_true,Bool.not_eq_true']at g1;have hj:j∈cJ.getD i []:=pR.1 g1.1.1;have Iu:j≠i:=Nat.ne_of_beq_eq_false g1.1.2;obtain⟨d,tW⟩:=Option.isSome_iff_exists.1 g1.2;have h1:=hI.did j (MR j ((c4 j hj).resolve_left Iu)) d tW;refine⟨?_,g3,g4⟩;have h0:((all.toArray[j]?).bind (·.dst))=some d:=by simpa[eA]using tW
      rcases g2 with g2|g2
      ·rw[g2 y]at h1;have h2:yielded all.toArray a'.tmps j=some (!b):=by
        unfold yielded;rw[h0];simp only[Option.bind_some,h1]
       simp[Region.wanted,zi,h2]
      ·rw[g2 y]at h1;have h2:yielded all.toArray a'.tmps j=none:=by
        unfold yielded;rw[h0];simp only[Option.bind_some,h1,undef]
       simp[Region.wanted,zi,h2]
    obtain⟨QV,XD,hU⟩:=QV;simp only[QV,if_false,Bool.false_eq_true];rw[hd];refine fin undef w' (y i) (λd _=>(XD _).1.symm) ?_;rw[(XD _).2,hU];rw[hU]at hh;exact hh
   ·have hw:Region.wanted o (yielded all.toArray a'.tmps)=true:=by
     replace MU:rJ all c9 cJ i o.guard:=MU;cases zi:o.guard with
     |none=>simp[Region.wanted,zi]
     |some jb=>
      obtain⟨j,b⟩:=jb;rw[zi]at MU;obtain⟨g1,g2⟩:=MU;rw[Bool.and_eq_true,Bool.and_eq_true,Bool.not_eq_true']at g1;have hj:j∈cJ.getD i []:=pR.1 g1.1.1;have Iu:j≠i:=Nat.ne_of_beq_eq_false g1.1.2;obtain⟨d,tW⟩:=Option.isSome_iff_exists.1 g1.2;have h1:=hI.did j (MR j ((c4 j hj).resolve_left Iu)) d tW;rw[g2 y]at h1;have h2:yielded all.toArray a'.tmps j=some b:=by
       unfold yielded;rw[show((all.toArray[j]?).bind (·.dst))=some d from by simpa[eA]using tW];simp only[Option.bind_some,h1]
      simp[Region.wanted,zi,h2]
    simp only[hw,if_true];left;have rH:=QU o rfl a' w' y _ hI.fr (λj hj Iu=>hI.did j (MR j ((c4 j hj).resolve_left Iu))) a3M hh;obtain⟨agv,op0,ty0,agw,agx,agy⟩:=o;refine rH Q _ ?_;rintro v w2 ⟨g,hv,QQ⟩;rw[hd];exact fin v w2 g hv QQ
 have hl0:de all.length ress L (λ_ _=>.nil) (lX all.length m cons (Array.replicate all.toArray.size false))=L:=by
  have Iv:∀k,fB (Array.replicate all.toArray.size false) k=false:=by
   intro k;cases hb:fB (Array.replicate all.toArray.size false) k with
   |false=>rfl
   |true=>
    rw[pS,Array.getElem?_replicate]at hb;split at hb<;>cases hb
  have h1:lX all.length m cons (Array.replicate all.toArray.size false)=(List.range m).map (all.length+·):=by
   unfold lX;have hu:∀j,qR all.length cons (Array.replicate all.toArray.size false) j=false:=by
    intro j;unfold qR;rw[List.any_eq_false];intro k _;rw[Iv];simp
   rw[List.range_add,List.filter_append];have p1:(List.range all.length).filter (λj=>(!(Nat.blt j all.length)||fB (Array.replicate all.toArray.size false) j)&&!(qR all.length cons (Array.replicate all.toArray.size false) j))=[]:=by
    rw[List.filter_eq_nil_iff];intro j hj;have:Nat.blt j all.length=true:=by simpa[Nat.blt,Nat.lt_iff_add_one_le]using List.mem_range.1 hj
    rw[this,Iv];simp
   rw[p1,List.nil_append,List.filter_eq_self];intro j hj;obtain⟨k,_,rfl⟩:=List.mem_map.1 hj;have:Nat.blt (all.length+k) all.length=false:=by
    cases hb:Nat.blt (all.length+k) all.length with
    |false=>rfl
    |true=>
     have:all.length+k<all.length:=by simpa[Nat.blt,Nat.lt_iff_add_one_le]using hb
     omega
   rw[this,hu];rfl
  rw[h1];have h2:∀(q:List Nat),de all.length ress L (λ_ _=>.nil) (q.map (all.length+·))=q.map λk=>L.getD k .none:=by
   intro q
   induction q with
   |nil=>rfl
   |cons k r ih=>
    have:Nat.blt (all.length+k) all.length=false:=by
     cases hb:Nat.blt (all.length+k) all.length with
     |false=>rfl
     |true=>
      have:all.length+k<all.length:=by simpa[Nat.blt,Nat.lt_iff_add_one_le]using hb
      omega
    simp only[List.map_cons,de,this,cond_false,ih,Nat.add_sub_cancel_left];rfl
  rw[h2,←hL];apply List.ext_getElem
  ·simp
  ·intro i h1 h2;simp at h1;simp[h1]
 have Iv:∀k,fB (Array.replicate all.toArray.size false) k=true→False:=by
  intro k hb;rw[pS,Array.getElem?_replicate]at hb;split at hb<;>cases hb
 refine key all.length (Array.replicate all.toArray.size false) a _ (λ_ _=>.nil) ⟨by simp,H,λi hi=>(Iv i hi).elim,λi o hi=>(Iv i hi).elim,?_,λk e he _=>hold k e he⟩ (by simp);rw[hl0];exact hS.below ⟨rfl,rfl,rfl,Nat.le_refl _,λ_ _=>rfl⟩
theorem a3R{P:Program}{n id:Nat}{all:List Oper}{Q:Exit→Act→World→Prop}{a:Act}{w wE:World}{base:SF}{M:Av}{X:List Nat}{L:List aU}(N m:Nat)(c9:Gm→List Value)(ress:Gm→List (List aU))(use cons cJ:List (List Nat))(eL:List (Nat×Nat×Value))
  (H:aD [] n base a)(hold:∀(k:Nat) e,eL[k]?=some e→a.tmps[e.1]?=some e.2.2)(nq:xq N all eL=true)(hS:SH M X wE L w)(hm:P.follows .mixedOrders=true)(hN:all.length=N)(hL:L.length=m)(gQ:qQ n base all=true)(jT:xm all=true)(oE:xp N m all use cons cJ=true)(xt:fZ N 0 λi=>rJ all c9 cJ i ((all[i]?).bind (·.guard)))
  (tV:fZ N 0 λj=>∀(y:Gm)(i:Nat)(g:Nat→Gh),i∉cJ.getD j []→(c9 (dT y i g)).getD j undef=(c9 y).getD j undef∧(ress (dT y i g)).getD j []=(ress y).getD j [])
  (xu:fZ N 0 λi=>∀o,all[i]?=some o→∀a' w' y M',aD [] n base a'→(∀j∈cJ.getD i [],j≠i→∀d,eA all j=some d→a'.tmps[d]?=some ((c9 y).getD j undef))→(∀(k:Nat) e,eL[k]?=some e→(Nat.beq e.2.1 i||reach all N e.2.1 i)=true→a'.tmps[e.1]?=some e.2.2)→S0 M' (de N ress L y (use.getD i [])) w'→
   br P (tU o) a' w' λv w2=>∃g:Nat→Gh,(∀d,eA all i=some d→v=(c9 (dT y i g)).getD i undef)∧SH M' (aH (de N ress L y (use.getD i []))) w' ((ress (dT y i g)).getD i []++de N ress L y ((use.getD i []).filter λj=>!(iS (cons.getD i []) j))) w2)
  (hK:∀a' w' y,aD [] n base a'→(∀i d,eA all i=some d→a'.tmps[d]?=some ((c9 y).getD i undef))→SH M X wE (de N ress L y (tT N m cons)) w'→Q .normal a' w'):
  (Code.region id all.toArray true).wp P Q a w:=
  Xl N m c9 ress use cons cJ eL H hold nq hS hm hN hL gQ jT oE tV ((xt.and xu).imp λ_ h=>.inr h) hK
theorem a3S{y:Gm}{g:Nat→Gh}{i k:Nat}{l:List Nat}(hi:i∉l)(hk:iS l k=true):dT y i g k=y k:=a3F y g λe=>hi (e▸pR.1 hk)
def BK(ks:List Nat)(y:Gm):Gm:=λk=>cond (iS ks k) (y k) (λ_=>.nil)
theorem XE{P:Program}{n id:Nat}{all:List Oper}{a:Act}{w wE:World}{base:SF}{M:Av}{X:List Nat}{L:List aU}{N' R':eN}{ES:List (Nat×eN)}(N m:Nat)(c9:Gm→List Value)(ress:Gm→List (List aU))(use cons cJ:List (List Nat))(eL:List (Nat×Nat×Value))
  (H:aD [] n base a)(hold:∀(k:Nat) e,eL[k]?=some e→a.tmps[e.1]?=some e.2.2)(nq:xq N all eL=true)(hS:SH M X wE L w)(hm:P.follows .mixedOrders=true)(hN:all.length=N)(hL:L.length=m)(gQ:qQ n base all=true)(jT:xm all=true)(oE:xp N m all use cons cJ=true)(xt:fZ N 0 λi=>rJ all c9 cJ i ((all[i]?).bind (·.guard)))
  (tV:fZ N 0 λj=>∀(y:Gm)(i:Nat)(g:Nat→Gh),i∉cJ.getD j []→(c9 (dT y i g)).getD j undef=(c9 y).getD j undef∧(ress (dT y i g)).getD j []=(ress y).getD j [])
  (xu:fZ N 0 λi=>∀o,all[i]?=some o→∀a' w' y M',aD [] n base a'→(∀j∈cJ.getD i [],j≠i→∀d,eA all j=some d→a'.tmps[d]?=some ((c9 y).getD j undef))→(∀(k:Nat) e,eL[k]?=some e→(Nat.beq e.2.1 i||reach all N e.2.1 i)=true→a'.tmps[e.1]?=some e.2.2)→S0 M' (de N ress L y (use.getD i [])) w'→
   br P (tU o) a' w' λv w2=>∃g:Nat→Gh,(∀d,eA all i=some d→v=(c9 (dT y i g)).getD i undef)∧SH M' (aH (de N ress L y (use.getD i []))) w' ((ress (dT y i g)).getD i []++de N ress L y ((use.getD i []).filter λj=>!(iS (cons.getD i []) j))) w2)
  (hK:∀a' w' y,aD [] n base a'→(∀i d,eA all i=some d→a'.tmps[d]?=some ((c9 y).getD i undef))→SH M X wE (de N ress L y (tT N m cons)) w'→N' a' w'):(Code.region id all.toArray true).wp P (Qs N' ES R') a w:=a3R N m c9 ress use cons cJ eL H hold nq hS hm hN hL gQ jT oE xt tV xu hK
theorem a3T{P:Program}{n id:Nat}{all:List Oper}{a:Act}{w wE:World}{base:SF}{M:Av}{X:List Nat}{L:List aU}{N' R':eN}{ES:List (Nat×eN)}{z:Code}(N m:Nat)(c9:Gm→List Value)(ress:Gm→List (List aU))(use cons cJ:List (List Nat))(eL:List (Nat×Nat×Value))
  (H:aD [] n base a)(hold:∀(k:Nat) e,eL[k]?=some e→a.tmps[e.1]?=some e.2.2)(nq:xq N all eL=true)(hS:SH M X wE L w)(hm:P.follows .mixedOrders=true)(hN:all.length=N)(hL:L.length=m)(gQ:qQ n base all=true)(jT:xm all=true)(oE:xp N m all use cons cJ=true)(xt:fZ N 0 λi=>rJ all c9 cJ i ((all[i]?).bind (·.guard)))
  (tV:fZ N 0 λj=>∀(y:Gm)(i:Nat)(g:Nat→Gh),i∉cJ.getD j []→(c9 (dT y i g)).getD j undef=(c9 y).getD j undef∧(ress (dT y i g)).getD j []=(ress y).getD j [])
  (xu:fZ N 0 λi=>∀o,all[i]?=some o→∀a' w' y M',aD [] n base a'→(∀j∈cJ.getD i [],j≠i→∀d,eA all j=some d→a'.tmps[d]?=some ((c9 y).getD j undef))→(∀(k:Nat) e,eL[k]?=some e→(Nat.beq e.2.1 i||reach all N e.2.1 i)=true→a'.tmps[e.1]?=some e.2.2)→S0 M' (de N ress L y (use.getD i [])) w'→
   br P (tU o) a' w' λv w2=>∃g:Nat→Gh,(∀d,eA all i=some d→v=(c9 (dT y i g)).getD i undef)∧SH M' (aH (de N ress L y (use.getD i []))) w' ((ress (dT y i g)).getD i []++de N ress L y ((use.getD i []).filter λj=>!(iS (cons.getD i []) j))) w2)
  (hK:∀a' w' y,aD [] n base a'→(∀i d,eA all i=some d→a'.tmps[d]?=some ((c9 y).getD i undef))→SH M X wE (de N ress L y (tT N m cons)) w'→z.wp P (Qs N' ES R') a' w'):(Code.seq (.region id all.toArray true) z).wp P (Qs N' ES R') a w:=Bt (XE N m c9 ress use cons cJ eL H hold nq hS hm hN hL gQ jT oE xt tV xu hK)
theorem a3U{P:Program}{n id:Nat}{all:List Oper}{a:Act}{w wE:World}{base:SF}{M:Av}{X:List Nat}{L:List aU}{N' R':eN}{ES:List (Nat×eN)}(N m:Nat)(c9:Gm→List Value)(ress:Gm→List (List aU))(use cons cJ:List (List Nat))(eL:List (Nat×Nat×Value))
  (H:aD [] n base a)(hold:∀(k:Nat) e,eL[k]?=some e→a.tmps[e.1]?=some e.2.2)(nq:xq N all eL=true)(hS:SH M X wE L w)(hm:P.follows .mixedOrders=true)(hN:all.length=N)(hL:L.length=m)(gQ:qQ n base all=true)(jT:xm all=true)(oE:xp N m all use cons cJ=true)
  (tV:fZ N 0 λj=>∀(y:Gm)(i:Nat)(g:Nat→Gh),i∉cJ.getD j []→(c9 (dT y i g)).getD j undef=(c9 y).getD j undef∧(ress (dT y i g)).getD j []=(ress y).getD j [])
  (hA:fZ N 0 λi=>Is all c9 ress use cJ i ((all[i]?).bind (·.guard))∨(rJ all c9 cJ i ((all[i]?).bind (·.guard))∧∀o,all[i]?=some o→∀a' w' y M',aD [] n base a'→(∀j∈cJ.getD i [],j≠i→∀d,eA all j=some d→a'.tmps[d]?=some ((c9 y).getD j undef))→(∀(k:Nat) e,eL[k]?=some e→(Nat.beq e.2.1 i||reach all N e.2.1 i)=true→a'.tmps[e.1]?=some e.2.2)→S0 M' (de N ress L y (use.getD i [])) w'→
   br P (tU o) a' w' λv w2=>∃g:Nat→Gh,(∀d,eA all i=some d→v=(c9 (dT y i g)).getD i undef)∧SH M' (aH (de N ress L y (use.getD i []))) w' ((ress (dT y i g)).getD i []++de N ress L y ((use.getD i []).filter λj=>!(iS (cons.getD i []) j))) w2))
  (hK:∀a' w' y,aD [] n base a'→(∀i d,eA all i=some d→a'.tmps[d]?=some ((c9 y).getD i undef))→SH M X wE (de N ress L y (tT N m cons)) w'→N' a' w'):(Code.region id all.toArray true).wp P (Qs N' ES R') a w:=Xl N m c9 ress use cons cJ eL H hold nq hS hm hN hL gQ jT oE tV hA hK
theorem a3V{P:Program}{n id:Nat}{all:List Oper}{a:Act}{w wE:World}{base:SF}{M:Av}{X:List Nat}{L:List aU}{N' R':eN}{ES:List (Nat×eN)}{z:Code}(N m:Nat)(c9:Gm→List Value)(ress:Gm→List (List aU))(use cons cJ:List (List Nat))(eL:List (Nat×Nat×Value))
  (H:aD [] n base a)(hold:∀(k:Nat) e,eL[k]?=some e→a.tmps[e.1]?=some e.2.2)(nq:xq N all eL=true)(hS:SH M X wE L w)(hm:P.follows .mixedOrders=true)(hN:all.length=N)(hL:L.length=m)(gQ:qQ n base all=true)(jT:xm all=true)(oE:xp N m all use cons cJ=true)
  (tV:fZ N 0 λj=>∀(y:Gm)(i:Nat)(g:Nat→Gh),i∉cJ.getD j []→(c9 (dT y i g)).getD j undef=(c9 y).getD j undef∧(ress (dT y i g)).getD j []=(ress y).getD j [])
  (hA:fZ N 0 λi=>Is all c9 ress use cJ i ((all[i]?).bind (·.guard))∨(rJ all c9 cJ i ((all[i]?).bind (·.guard))∧∀o,all[i]?=some o→∀a' w' y M',aD [] n base a'→(∀j∈cJ.getD i [],j≠i→∀d,eA all j=some d→a'.tmps[d]?=some ((c9 y).getD j undef))→(∀(k:Nat) e,eL[k]?=some e→(Nat.beq e.2.1 i||reach all N e.2.1 i)=true→a'.tmps[e.1]?=some e.2.2)→S0 M' (de N ress L y (use.getD i [])) w'→
   br P (tU o) a' w' λv w2=>∃g:Nat→Gh,(∀d,eA all i=some d→v=(c9 (dT y i g)).getD i undef)∧SH M' (aH (de N ress L y (use.getD i []))) w' ((ress (dT y i g)).getD i []++de N ress L y ((use.getD i []).filter λj=>!(iS (cons.getD i []) j))) w2))
  (hK:∀a' w' y,aD [] n base a'→(∀i d,eA all i=some d→a'.tmps[d]?=some ((c9 y).getD i undef))→SH M X wE (de N ress L y (tT N m cons)) w'→z.wp P (Qs N' ES R') a' w'):(Code.seq (.region id all.toArray true) z).wp P (Qs N' ES R') a w:=Bt (a3U N m c9 ress use cons cJ eL H hold nq hS hm hN hL gQ jT oE tV hA hK)
def QW{H:Type}(P:Program)(W:World)(aT:TypeId×Value→H)(t:TypeId){α:Type}(T:Ty α)(wf:α→Prop):Prop:=
 ∀(n:Nat)(cs:List Value) x,DataW.trod aT P W 0 (λ_=>true) true n t cs=some x→∃(v:α)(g:Nat→Gh),cs=T.aT v g∧T.cx F0 W v g∧wf v
theorem XF{w:World}{a:Addr}{v:Value}(h:w.cell? a=some v):a.block<w.heap.size:=by
 unfold World.cell? at h;rcases Nat.lt_or_ge a.block w.heap.size with h1|h1
 ·exact h1
 ·rw[Array.getElem?_eq_none h1]at h;simp at h
theorem Addr.a3W(b o i:Nat):(⟨b,o,none⟩:Addr).add i=⟨b,o+i,none⟩:=by
 unfold Addr.add;split
 ·rename_i h;subst h;rfl
 ·rfl
theorem a3X{α:Type}{B:Type}[Nonempty B]:∀{n:Nat}(p:Nat→α→B→Prop),(∀i,i<n→∃v b,p i v b)→∃(l:List α)(s:Nat→B),∃(hl:l.length=n),∀i (h:i<n),p i (l[i]'(by omega)) (s i):=by
 intro n p h
 classical
 rcases Nat.eq_zero_or_pos n with rfl|h0
 ·exact⟨[],λ_=>Classical.choice inferInstance,rfl,λi h=>absurd h (by omega)⟩
 ·obtain⟨v0,b0,_⟩:=h 0 h0;have:Nonempty α:=⟨v0⟩;have:Nonempty B:=⟨b0⟩
  let f:Nat→α:=λi=>if hi:i<n then(h i hi).choose else v0
  let s:Nat→B:=λi=>if hi:i<n then(h i hi).choose_spec.choose else b0
  refine⟨(List.range n).map f,s,by simp,λi hi=>?_⟩;have:=(h i hi).choose_spec.choose_spec;simpa[f,s,hi]using this
section
variable {H:Type} {P:Program} {W:World} {aT:TypeId×Value→H}
theorem rK{t:TypeId}{k:IntKind}(hu:P.underlying t=some (.int k)):QW P W aT t (tI k) λv=>(Lit.int k v).wf=true:=by
 intro n cs x h;cases n with
 |zero=>simp[DataW.trod]at h
 |succ n=>
  unfold DataW.trod at h;rw[hu]at h;split at h<;>first|(rename_i he _;cases he;done)|skip
  all_goals simp_all
  all_goals first
   |(obtain⟨⟨rfl,hw⟩,_⟩:=h;exact⟨_,λ_=>.nil,rfl,trivial,hw⟩)
   |skip
theorem MV{t:TypeId}(hu:P.underlying t=some .bool):QW P W aT t tB λ_=>True:=by
 intro n cs x h;cases n with
 |zero=>simp[DataW.trod]at h
 |succ n=>
  unfold DataW.trod at h;rw[hu]at h;rcases cs with _|⟨c,_|⟨c2,r⟩⟩
  ·simp at h
  ·cases c<;>simp at h;rename_i b;exact⟨b,λ_=>.nil,rfl,trivial,trivial⟩
  ·simp at h
theorem ga{cs e r:List Value}{o k c:Nat}(hc:c=k)(h:(cs.drop o).take c=e)(h2:cs.drop (o+k)=r):cs.drop o=e++r:=by
 subst hc;rw[←List.take_append_drop c (cs.drop o),h,List.drop_drop,h2]
theorem sI{cs:List Value}{o:Nat}(h:cs.length=o):cs.drop o=[]:=List.drop_eq_nil_of_le (by omega)
end
theorem QX{P:Program}{W:World}{name:String}{k:IntKind}{zs:List Int}{g:Nat}{t e:TypeId}{n:Nat}
  (hg:P.globalNamed name=some g)(hty:(P.globals[g]?).map (·.type)=some t)(ht:P.underlying t=some (.array n e))(he:P.underlying e=some (.int k))(Q5:P.cellsOf e=1)(hct:P.cellsOf t=n)
  (hn:zs.length=n)(h:Lib.VarReads P W name (Lib.tabData k zs))(o1:Nat.blt 0 n=true):bC (tI k) F0 W zs (Gh.mk (some ⟨g,0,none⟩) n λ_ _=>.nil):=by
 obtain⟨g',t',cs,BI,p,yY,ht',a3Y,hd⟩:=h;obtain rfl:=Option.some.inj (hg.symm.trans yY);obtain rfl:=Option.some.inj (hty.symm.trans ht');have MW:Lib.TabIs P W name k zs:=by unfold Lib.TabIs;rw[a3Y,←Lib.cells_of_tab ht he Q5 hct hd]
 have hp:0<n:=by simpa[Nat.blt,Nat.lt_iff_add_one_le]using o1
 refine⟨⟨λ_=>rfl,λ_=>?_,λ_ h=>h.elim,λi hi j v hv=>?_,Nat.le_of_eq hn⟩,λi hi=>trivial⟩
 ·exact XF (MW.cell hg 0 (by omega))
 ·have hj:j=0:=by
   rcases j with _|j
   ·rfl
   ·simp[tI,Ty.flat]at hv
  subst hj;have h1:v=.int k zs[i]:=by simpa[tI,Ty.flat]using hv.symm
  subst h1;have:=MW.cell hg i hi;have h2:zs.getD i 0=zs[i]:=by simp[List.getD,List.getElem?_eq_getElem hi]
  rw[h2]at this;have h3:i*(tI k).z=i:=Nat.mul_one i;show W.cell? ⟨g,0+i*(tI k).z+0,none⟩=_;rw[h3,Nat.zero_add];exact this
theorem a3Z{P:Program}{f:FuncId}{args:Array Value}{v:Value}{w:World}{L:List aU}(hL:S0 F0 L w∧aH L=[])(h:S0 F0 L w→Calls P f args w λe pM=>∃u,e=.returned u∧u=v∧SH F0 (aH L) w [] pM):
  Calls P f args w (Pure v w):=by
 refine(h hL.1).mono ?_;rintro e pM ⟨u,rfl,rfl,hS⟩;refine⟨rfl,?_⟩;have:=hS.kp;rw[hL.2]at this;exact this.below
def T(D:List Deferred)(n:Nat)(M:Av)(X:List Nat)(w0:World)(l:SF)(L:List aU)(N:eN):Prop:=
 ∀a w,aD D n l a→SH M X w0 L w→N a w
def fz:List Nat→List Value→SF
 |k::ks,v::vs=>(k,[],v)::fz ks vs
 |_,_=>[]
structure Pk(S:World→Prop) where
 v:Option Value
 p:Ob
 h:∀w,S w→p w
def fQ{S:World→Prop}:List (Pk S)→List Value
 |[]=>[]
 |q::r=>match q.v with
  |some v=>v::fQ r
  |none=>fQ r
def fR{S:World→Prop}:List (Pk S)→List Ob
 |[]=>[]
 |q::r=>q.p::fR r
theorem vr{S:World→Prop}{w:World}(h:S w):∀q:List (Pk S),qI (fR q) w
 |[]=>trivial
 |q::r=>⟨q.h w h,vr h r⟩
section
variable {S:World→Prop}
def kh{p:Prop}(h:p):Pk S:=⟨none,λ_=>p,λ_ _=>h⟩
def kc{P:Program}{f:FuncId}{args:Array Value}{v:Value}(h:yR P f args v):Pk S:=⟨some v,λw=>jn P f args v w,λ_ _=>h.b⟩
def kr{P:Program}{f:FuncId}{args:Array Value}{v:Value}(h:∀w,S w→jn P f args v w):Pk S:=⟨some v,λw=>jn P f args v w,h⟩
def j4(c:Prop){p:Prop}(h:c→p):Pk S:=⟨none,λ_=>c→p,λ_ _=>h⟩
def dB(c:Prop){P:Program}{f:FuncId}{args:Array Value}{v:Value}(h:c→yR P f args v):Pk S:=⟨some v,λw=>c→jn P f args v w,λ_ _ hc=>(h hc).b⟩
def eo(c:Prop){P:Program}{f:FuncId}{args:Array Value}{v:Value}(h:∀w,S w→c→jn P f args v w):Pk S:=⟨some v,λw=>c→jn P f args v w,h⟩
end
section
variable {D:List Deferred} {n:Nat} {M:Av} {X:List Nat} {w0:World} {l:SF} {L:List aU} {N R:eN} {ES:List (Nat×eN)} {P:Program} {Q:Exit→Act→World→Prop} {all:List Oper} {id:Nat}
def kb(k o:Nat){b:Nat}{cs:List Value}{v:Value}(hk:L[k]?=some (.lm b cs):=by rfl)(hv:cs[o]?=some v:=by rfl):Pk (SH M X w0 L):=⟨some v,cc ⟨b,o,none⟩ v,λ_ h=>(h.bk k hk).cc hv⟩
def ko(k o:Nat){b:Nat}{cs:List Value}{v:Value}(hk:L[k]?=some (.ro b cs):=by rfl)(hv:cs[o]?=some v:=by rfl):Pk (SH M X w0 L):=⟨some v,cc ⟨b,o,none⟩ v,λ_ h=>(h.ro k hk).cc hv⟩
def kE(k n:Nat){b:Nat}{cs:List Value}(hk:L[k]?=some (.lm b cs):=by rfl):Pk (SH M X w0 L):=⟨some (.agg ⟨cs.take n⟩),bn b 0 (cs.take n) 0,λ_ h=>(h.bk k hk).cM (by simp[List.length_take,List.take_eq_take_iff])⟩
theorem aQ{a:Act}{w:World}(H:aD D n l a)(hS:SH M X w0 L w)(h:T D n M X w0 l L N):N a w:=h a w H hS
theorem jq{y:Code}(ks:List Nat)(vs:List Value)(q:List (Pk (SH M X w0 L)))(h:T D n M X w0 (fz ks vs) L λa w=>y.wp P (Qs N ES R) a w)
  (he:iQ P n all (fQ q) l ks=some (fz ks vs,fR q):=by kernel_rfl):T D n M X w0 l L λa w=>(Code.seq (.region id all.toArray false) y).wp P (Qs N ES R) a w:=
 λ_ _ H hS=>Bu (fQ q) ks _ (fR q) H he (vr hS q) λ_ _ H' hb=>h _ _ H' (hS.below hb)
theorem BL(ks:List Nat)(vs:List Value)(q:List (Pk (SH M X w0 L)))(h:T D n M X w0 (fz ks vs) L N)
  (he:iQ P n all (fQ q) l ks=some (fz ks vs,fR q):=by kernel_rfl):T D n M X w0 l L λa w=>(Code.region id all.toArray false).wp P (Qs N ES R) a w:=
 λ_ _ H hS=>Qh (fQ q) ks _ (fR q) H he (vr hS q) λ_ _ H' hb=>h _ _ H' (hS.below hb)
theorem pp{y:Code}(ks:List Nat)(vs:List Value)(q:List (Pk (SH M X w0 L)))(h:T D n M X w0 (fz ks vs) L λa w=>y.wp P (Qs N ES R) a w)
  (he:iQ P n all (fQ q) l ks=some (fz ks vs,fR q):=by kernel_rfl)(hm:P.follows .mixedOrders=true:=by kernel_rfl)(hB:Region.lexB .any all.toArray=true:=by kernel_rfl):T D n M X w0 l L λa w=>(Code.seq (.region id all.toArray true) y).wp P (Qs N ES R) a w:=
 λ_ _ H hS=>a32 (fQ q) ks _ (fR q) H hm hB he (vr hS q) λ_ _ H' hb=>h _ _ H' (hS.below hb)
theorem Iw(ks:List Nat)(vs:List Value)(q:List (Pk (SH M X w0 L)))(h:T D n M X w0 (fz ks vs) L N)
  (he:iQ P n all (fQ q) l ks=some (fz ks vs,fR q):=by kernel_rfl)(hm:P.follows .mixedOrders=true:=by kernel_rfl)(hB:Region.lexB .any all.toArray=true:=by kernel_rfl):T D n M X w0 l L λa w=>(Code.region id all.toArray true).wp P (Qs N ES R) a w:=
 λ_ _ H hS=>Wx (fQ q) ks _ (fR q) H hm hB he (vr hS q) λ_ _ H' hb=>h _ _ H' (hS.below hb)
theorem qS{i:Nat}(j:Nat)(ks:List Nat)(vs:List Value)(q:List (Pk (SH M X w0 L)))(h:T D n M X w0 (fz ks vs) L λa w=>wpList P all.toArray Q (all.drop j) a w)
  (he:Ex P n all i j (fQ q) l ks=some (fz ks vs,fR q):=by kernel_rfl)(ez:Nat.ble i j=true:=by rfl):T D n M X w0 l L λa w=>wpList P all.toArray Q (all.drop i) a w:=
 λ_ _ H hS=>yX i j (fQ q) ks _ (fR q) H ez he (vr hS q) λ_ _ H' hb=>h _ _ H' (hS.below hb)
theorem dG(h:T D n M X w0 l L λa w=>wpList P all.toArray (Qs N ES R) (all.drop 0) a w):T D n M X w0 l L λa w=>(Code.region id all.toArray false).wp P (Qs N ES R) a w:=
 λ_ _ H hS=>Wz (h _ _ H hS)
theorem az{y:Code}(h:T D n M X w0 l L λa w=>wpList P all.toArray (Qs (λa w=>y.wp P (Qs N ES R) a w) ES R) (all.drop 0) a w):T D n M X w0 l L λa w=>(Code.seq (.region id all.toArray false) y).wp P (Qs N ES R) a w:=
 λ_ _ H hS=>Bt (Wz (h _ _ H hS))
theorem an{i:Nat}(h:T D n M X w0 l L N)(hi:Nat.ble all.length i=true:=by rfl):T D n M X w0 l L λa w=>wpList P all.toArray (Qs N ES R) (all.drop i) a w:=
 λ_ _ H hS=>a36 hi (h _ _ H hS)
theorem aq{x y:Code}(h:T D n M X w0 l L λa w=>x.wp P (Qs (λa w=>y.wp P (Qs N ES R) a w) ES R) a w):T D n M X w0 l L λa w=>(Code.seq x y).wp P (Qs N ES R) a w:=
 λ_ _ H hS=>Bt (h _ _ H hS)
theorem ah(h:T D n M X w0 l L N):T D n M X w0 l L λa w=>Code.skip.wp P (Qs N ES R) a w:=λ_ _ H hS=>a2X (h _ _ H hS)
theorem aE{i:Nat}{c:Code}(h:T D n M X w0 l L λa w=>c.wp P (Qs N ((i,N)::ES) R) a w):T D n M X w0 l L λa w=>(Code.block i c).wp P (Qs N ES R) a w:=λ_ _ H hS=>a30 (h _ _ H hS)
theorem ax(h:T D n M X w0 l L R):T D n M X w0 l L λa w=>Code.ret.wp P (Qs N ES R) a w:=λ_ _ H hS=>a2Y (h _ _ H hS)
theorem bt{i:Nat}{E:eN}(h:T D n M X w0 l L E)(hi:Bs ES i=some E:=by rfl):T D n M X w0 l L λa w=>(Code.exit i).wp P (Qs N ES R) a w:=λ_ _ H hS=>a2Z hi (h _ _ H hS)
theorem lF{c:Operand}{x y:Code}{t:Bool}(h1:t=true→T D n M X w0 l L λa w=>x.wp P (Qs N ES R) a w)(h2:t=false→T D n M X w0 l L λa w=>y.wp P (Qs N ES R) a w)(hc:ev l [] c=some (.bool t):=by rfl):
  T D n M X w0 l L λa w=>(Code.cond c x y).wp P (Qs N ES R) a w:=λ_ _ H hS=>yV H hc (λh=>h1 h _ _ H hS) (λh=>h2 h _ _ H hS)
theorem QY{α:Type}{c:Operand}{x y:Code}{t:Bool}{p q r:α}(hm:cond t p q=r)(h1:p=r→T D n M X w0 l L λa w=>x.wp P (Qs N ES R) a w)(h2:q=r→T D n M X w0 l L λa w=>y.wp P (Qs N ES R) a w)(hc:ev l [] c=some (.bool t):=by rfl):
  T D n M X w0 l L λa w=>(Code.cond c x y).wp P (Qs N ES R) a w:=λ_ _ H hS=>yV H hc (λh=>h1 (bT h hm) _ _ H hS) (λh=>h2 (bF h hm) _ _ H hS)
theorem al(ks:List Nat)(h:T D n M X w0 l (ed L ks) N)(hk:jo L ks=true:=by rfl):T D n M X w0 l L N:=λ_ _ H hS=>h _ _ H (hS.aY ks hk)
theorem eE{α:Type}(E:TypeId)(Y:Ty α)(h:T D n M X w0 l (.own E Y ([]:List α) .nil::L) N):T D n M X w0 l L N:=λ_ _ H hS=>h _ _ H (hS.MI E Y)
theorem BM{α:Type}{E:TypeId}{Y:Ty α}{q:List α}{g:Gh}(ks:List Nat)(h:T D n M X w0 l (.im Y q g::(ed L ks).tail) N)(hL:ed L ks=.own E Y q g::(ed L ks).tail:=by rfl)(hk:jo L ks=true:=by rfl):T D n M X w0 l L N:=
 λ_ _ H hS=>h _ _ H (SH.eK (by rw[←hL];exact hS.aY ks hk))
def Cu(D:List Deferred)(n:Nat)(M:Av)(X:List Nat)(w0:World)(l:SF)(L:List aU):eN:=λa w=>aD D n l a∧SH M X w0 L w
theorem t_e{l':SF}{L':List aU}(ks:List Nat)(hl:bc l ks=some l':=by kernel_rfl)(hL:L=L':=by rfl):T D n M X w0 l L (Cu D n M X w0 l' L'):=λ_ _ H hS=>⟨aD.bc H hl,by subst hL;exact hS⟩
def Cg{γ:Type}(D:List Deferred)(n:Nat)(M:Av)(X:List Nat)(w0:World)(l:γ→SF)(L:γ→List aU):eN:=λa w=>∃g,aD D n (l g) a∧SH M X w0 (L g) w
theorem a41{γ:Type}{l':γ→SF}{L':γ→List aU}(g:γ)(ks:List Nat)(hl:bc l ks=some (l' g):=by kernel_rfl)(hL:L=L' g:=by rfl):T D n M X w0 l L (Cg D n M X w0 l' L'):=λ_ _ H hS=>⟨g,aD.bc H hl,by rw[←hL];exact hS⟩
theorem eP{γ:Type}{i d:Nat}{o:Oper}{F:γ→Value}{E:γ→List aU}(kt rt ks:List Nat)(vs:List Value)
  (hs:∀a w,aD D n l a→S0 (fK M (ed L rt)) (ed L kt) w→br P o a w λv w'=>∃g,v=F g∧SH (fK M (ed L rt)) (aH (ed L kt)) w (E g) w')
  (h:∀g,T D n M X w0 ((d,[],F g)::fz ks vs) (E g++ed L rt) λa w=>wpList P all.toArray Q (all.drop (i+1)) a w)
  (ho:all[i]?=some o:=by rfl)(hg:o.guard=none:=by rfl)(pQ:o.dst=some d:=by rfl)(hd:Nat.blt d n=true:=by rfl)(hk:∀v,bc (qE l d [] v) (d::ks)=some ((d,[],v)::fz ks vs):=by exact λ_=>rfl)
  (h1:jo L kt=true:=by rfl)(h2:qM L rt kt=true:=by rfl)(h3:jo L rt=true:=by rfl):T D n M X w0 l L λa w=>wpList P all.toArray Q (all.drop i) a w:=
 λ_ w H hS=>tQ (d::ks) _ H ho hg pQ hd (hs _ w H (hS.hand kt rt h1 h2)) hk λ_ _ _ H' ⟨g,e,hq⟩=>h g _ _ (e▸H') (hS.join kt rt h3 h2 hq)
theorem BN{i d:Nat}{o:Oper}{v:Value}{E:List aU}(kt rt ks:List Nat)(vs:List Value)
  (hs:∀a w,aD D n l a→S0 (fK M (ed L rt)) (ed L kt) w→br P o a w λu w'=>u=v∧SH (fK M (ed L rt)) (aH (ed L kt)) w E w')
  (h:T D n M X w0 ((d,[],v)::fz ks vs) (E++ed L rt) λa w=>wpList P all.toArray Q (all.drop (i+1)) a w)
  (ho:all[i]?=some o:=by rfl)(hg:o.guard=none:=by rfl)(pQ:o.dst=some d:=by rfl)(hd:Nat.blt d n=true:=by rfl)(hk:∀v,bc (qE l d [] v) (d::ks)=some ((d,[],v)::fz ks vs):=by exact λ_=>rfl)
  (h1:jo L kt=true:=by rfl)(h2:qM L rt kt=true:=by rfl)(h3:jo L rt=true:=by rfl):T D n M X w0 l L λa w=>wpList P all.toArray Q (all.drop i) a w:=
 λ_ w H hS=>tQ (d::ks) _ H ho hg pQ hd (hs _ w H (hS.hand kt rt h1 h2)) hk λ_ _ _ H' ⟨e,hq⟩=>h _ _ (e▸H') (hS.join kt rt h3 h2 hq)
theorem nu{i:Nat}{o:Oper}{E:List aU}(kt rt ks:List Nat)(vs:List Value)
  (hs:∀a w,aD D n l a→S0 (fK M (ed L rt)) (ed L kt) w→br P o a w λ_ w'=>SH (fK M (ed L rt)) (aH (ed L kt)) w E w')
  (h:T D n M X w0 (fz ks vs) (E++ed L rt) λa w=>wpList P all.toArray Q (all.drop (i+1)) a w)
  (ho:all[i]?=some o:=by rfl)(hg:o.guard=none:=by rfl)(pQ:o.dst=none:=by rfl)(hk:bc l ks=some (fz ks vs):=by rfl)
  (h1:jo L kt=true:=by rfl)(h2:qM L rt kt=true:=by rfl)(h3:jo L rt=true:=by rfl):T D n M X w0 l L λa w=>wpList P all.toArray Q (all.drop i) a w:=
 λ_ w H hS=>sH ks _ H ho hg pQ (hs _ w H (hS.hand kt rt h1 h2)) hk λ_ _ H' ⟨_,hq⟩=>h _ _ H' (hS.join kt rt h3 h2 hq)
end
section
variable {D:List Deferred} {n:Nat} {M:Av} {X:List Nat} {w0:World} {l:SF} {L:List aU} {N R:eN} {ES:List (Nat×eN)} {P:Program} {Q:Exit→Act→World→Prop} {all:List Oper} {id:Nat}
end
def EU(all:List Oper)(vs:List Value)(i:Nat):List Nat→SF
 |[]=>[]
 |j::r=>match Nat.beq j i,eA all j with
  |false,some d=>(d,[],vs.getD j undef)::EU all vs i r
  |_,_=>EU all vs i r
theorem XG{D:List Deferred}{n:Nat}{base:SF}{all:List Oper}{vs:List Value}{i:Nat}{a:Act}(H:aD D n base a):∀l:List Nat,(∀j∈l,j≠i→∀d,eA all j=some d→a.tmps[d]?=some (vs.getD j undef))→aD D n (EU all vs i l++base) a
 |[],_=>H
 |j::r,h=>by
  have ih:=XG H r λk hk=>h k (List.mem_cons_of_mem _ hk);unfold EU;split
  ·rename_i d hj hd;exact ih.add (h j List.mem_cons_self (Nat.ne_of_beq_eq_false hj) d hd)
  ·exact ih
section
variable {P:Program} {n N:Nat} {base:SF} {all:List Oper} {c9:Gm→List Value} {ress:Gm→List (List aU)} {use cons cJ:List (List Nat)} {eL:List (Nat×Nat×Value)} {L:List aU} {i j:Nat}
theorem lh(h:∀y,(c9 y).getD j undef=(c9 (BK (cJ.getD j []) y)).getD j undef∧(ress y).getD j []=(ress (BK (cJ.getD j []) y)).getD j []:=by exact λ_=>⟨rfl,rfl⟩):
  ∀(y:Gm)(i:Nat)(g:Nat→Gh),i∉cJ.getD j []→(c9 (dT y i g)).getD j undef=(c9 y).getD j undef∧(ress (dT y i g)).getD j []=(ress y).getD j []:=by
 intro y i g hi;have e:BK (cJ.getD j []) (dT y i g)=BK (cJ.getD j []) y:=by
  funext k;unfold BK;cases hb:iS (cJ.getD j []) k with
  |false=>rfl
  |true=>simp only[cond_true];exact a3S hi hb
 rw[(h (dT y i g)).1,(h (dT y i g)).2,e,←(h y).1,←(h y).2];exact⟨rfl,rfl⟩
def MX(c9:Gm→List Value)(ress:Gm→List (List aU))(cJ:List (List Nat))(j:Nat):Prop:=∀y,(c9 y).getD j undef=(c9 (BK (cJ.getD j []) y)).getD j undef∧(ress y).getD j []=(ress (BK (cJ.getD j []) y)).getD j []
theorem QZ(h:fZ N 0 (MX c9 ress cJ)):fZ N 0 λj=>∀(y:Gm)(i:Nat)(g:Nat→Gh),i∉cJ.getD j []→(c9 (dT y i g)).getD j undef=(c9 y).getD j undef∧(ress (dT y i g)).getD j []=(ress y).getD j []:=
 fZ.imp (λ_ h=>lh h) h
def obH:List Ob→Option Ob
 |[]=>none
 |o::_=>some o
theorem se(q:∀(y:Gm)(M':Av),List (Pk λw=>S0 M' (de N ress L y (use.getD i [])) w))
  (he:∀(y:Gm)(M':Av),(all[i]?).bind (λo=>Ew P (EU all (c9 y) i (cJ.getD i [])++base) [] o.op (fQ (q y M')))=some ⟨(c9 (dT y i (gL []))).getD i undef,[],obH (fR (q y M'))⟩:=by intros;kernel_rfl)
  (hr:∀y,(ress y).getD i []=[]:=by exact λ_=>rfl)(hc:((use.getD i []).filter λj=>!(iS (cons.getD i []) j))=use.getD i []:=by rfl):
  ∀o,all[i]?=some o→∀a' w' y M',aD [] n base a'→(∀j∈cJ.getD i [],j≠i→∀d,eA all j=some d→a'.tmps[d]?=some ((c9 y).getD j undef))→(∀(k:Nat) e,eL[k]?=some e→(Nat.beq e.2.1 i||reach all N e.2.1 i)=true→a'.tmps[e.1]?=some e.2.2)→S0 M' (de N ress L y (use.getD i [])) w'→
   br P (tU o) a' w' λv w2=>∃g:Nat→Gh,(∀d,eA all i=some d→v=(c9 (dT y i g)).getD i undef)∧SH M' (aH (de N ress L y (use.getD i []))) w' ((ress (dT y i g)).getD i []++de N ress L y ((use.getD i []).filter λj=>!(iS (cons.getD i []) j))) w2:=by
 intro o ho a' w' y M' Hb hv _ hS;have h:=he y M';rw[ho,Option.bind_some]at h;obtain⟨d,op,ty,pos,after,gd⟩:=o;refine br.mono (oz (o:=⟨d,op,ty,pos,after,none⟩) (fQ (q y M')) _ _ [] (XG Hb _ hv) rfl h λob e=>?_) λv w2 hq=>⟨gL [],λ_ _=>hq.1,?_⟩
 ·have h1:=vr hS (q y M');cases hp:fR (q y M')with
  |nil=>rw[hp]at e;cases e
  |cons x r=>rw[hp]at e h1;cases e;exact h1.1
 ·rw[hr,hc,List.nil_append];exact hS.below hq.2.below
theorem bD(he:∀(y:Gm),(all[i]?).bind (λo=>Ew P (EU all (c9 y) i (cJ.getD i [])++base) [] o.op [])=some ⟨(c9 (dT y i (gL []))).getD i undef,[],none⟩:=by intros;kernel_rfl)
  (hr:∀y,(ress y).getD i []=[]:=by exact λ_=>rfl)(hc:((use.getD i []).filter λj=>!(iS (cons.getD i []) j))=use.getD i []:=by rfl):
  ∀o,all[i]?=some o→∀a' w' y M',aD [] n base a'→(∀j∈cJ.getD i [],j≠i→∀d,eA all j=some d→a'.tmps[d]?=some ((c9 y).getD j undef))→(∀(k:Nat) e,eL[k]?=some e→(Nat.beq e.2.1 i||reach all N e.2.1 i)=true→a'.tmps[e.1]?=some e.2.2)→S0 M' (de N ress L y (use.getD i [])) w'→
   br P (tU o) a' w' λv w2=>∃g:Nat→Gh,(∀d,eA all i=some d→v=(c9 (dT y i g)).getD i undef)∧SH M' (aH (de N ress L y (use.getD i []))) w' ((ress (dT y i g)).getD i []++de N ress L y ((use.getD i []).filter λj=>!(iS (cons.getD i []) j))) w2:=
 se (λ_ _=>[]) (λy _=>he y) hr hc
end
theorem Ix{P:Program}{n id:Nat}{all:List Oper}{a:Act}{w wE:World}{base:SF}{M:Av}{X:List Nat}{L:List aU}{N' R':eN}{ES:List (Nat×eN)}(N m:Nat)(c9:Gm→List Value)(ress:Gm→List (List aU))(use cons cJ:List (List Nat))(eL:List (Nat×Nat×Value))
  (H:aD [] n base a)(hold:∀(k:Nat) e,eL[k]?=some e→a.tmps[e.1]?=some e.2.2)(nq:xq N all eL=true)(hS:SH M X wE L w)(hm:P.follows .mixedOrders=true)(hN:all.length=N)(hL:L.length=m)(gQ:qQ n base all=true)(jT:xm all=true)(oE:xp N m all use cons cJ=true)(xt:fZ N 0 λi=>rJ all c9 cJ i ((all[i]?).bind (·.guard)))
  (xu:fZ N 0 λi=>∀o,all[i]?=some o→∀a' w' y M',aD [] n base a'→(∀j∈cJ.getD i [],j≠i→∀d,eA all j=some d→a'.tmps[d]?=some ((c9 y).getD j undef))→(∀(k:Nat) e,eL[k]?=some e→(Nat.beq e.2.1 i||reach all N e.2.1 i)=true→a'.tmps[e.1]?=some e.2.2)→S0 M' (de N ress L y (use.getD i [])) w'→
   br P (tU o) a' w' λv w2=>∃g:Nat→Gh,(∀d,eA all i=some d→v=(c9 (dT y i g)).getD i undef)∧SH M' (aH (de N ress L y (use.getD i []))) w' ((ress (dT y i g)).getD i []++de N ress L y ((use.getD i []).filter λj=>!(iS (cons.getD i []) j))) w2)
  (hK:∀a' w' y,aD [] n base a'→(∀i d,eA all i=some d→a'.tmps[d]?=some ((c9 y).getD i undef))→SH M X wE (de N ress L y (tT N m cons)) w'→N' a' w')(hl:fZ N 0 (MX c9 ress cJ):=by repeat (first|exact trivial|refine And.intro (λ_=>⟨rfl,rfl⟩) ?_)):(Code.region id all.toArray true).wp P (Qs N' ES R') a w:=
 XE N m c9 ress use cons cJ eL H hold nq hS hm hN hL gQ jT oE xt (QZ hl) xu hK
theorem tX{P:Program}{n id:Nat}{all:List Oper}{a:Act}{w wE:World}{base:SF}{M:Av}{X:List Nat}{L:List aU}{N' R':eN}{ES:List (Nat×eN)}{z:Code}(N m:Nat)(c9:Gm→List Value)(ress:Gm→List (List aU))(use cons cJ:List (List Nat))(eL:List (Nat×Nat×Value))
  (H:aD [] n base a)(hold:∀(k:Nat) e,eL[k]?=some e→a.tmps[e.1]?=some e.2.2)(nq:xq N all eL=true)(hS:SH M X wE L w)(hm:P.follows .mixedOrders=true)(hN:all.length=N)(hL:L.length=m)(gQ:qQ n base all=true)(jT:xm all=true)(oE:xp N m all use cons cJ=true)(xt:fZ N 0 λi=>rJ all c9 cJ i ((all[i]?).bind (·.guard)))
  (xu:fZ N 0 λi=>∀o,all[i]?=some o→∀a' w' y M',aD [] n base a'→(∀j∈cJ.getD i [],j≠i→∀d,eA all j=some d→a'.tmps[d]?=some ((c9 y).getD j undef))→(∀(k:Nat) e,eL[k]?=some e→(Nat.beq e.2.1 i||reach all N e.2.1 i)=true→a'.tmps[e.1]?=some e.2.2)→S0 M' (de N ress L y (use.getD i [])) w'→
   br P (tU o) a' w' λv w2=>∃g:Nat→Gh,(∀d,eA all i=some d→v=(c9 (dT y i g)).getD i undef)∧SH M' (aH (de N ress L y (use.getD i []))) w' ((ress (dT y i g)).getD i []++de N ress L y ((use.getD i []).filter λj=>!(iS (cons.getD i []) j))) w2)
  (hK:∀a' w' y,aD [] n base a'→(∀i d,eA all i=some d→a'.tmps[d]?=some ((c9 y).getD i undef))→SH M X wE (de N ress L y (tT N m cons)) w'→z.wp P (Qs N' ES R') a' w')(hl:fZ N 0 (MX c9 ress cJ):=by repeat (first|exact trivial|refine And.intro (λ_=>⟨rfl,rfl⟩) ?_)):(Code.seq (.region id all.toArray true) z).wp P (Qs N' ES R') a w:=
 a3T N m c9 ress use cons cJ eL H hold nq hS hm hN hL gQ jT oE xt (QZ hl) xu hK
theorem a42{P:Program}{n id:Nat}{all:List Oper}{a:Act}{w wE:World}{base:SF}{M:Av}{X:List Nat}{L:List aU}{N' R':eN}{ES:List (Nat×eN)}{z:Code}(N m:Nat)(c9:Gm→List Value)(ress:Gm→List (List aU))(use cons cJ:List (List Nat))(eL:List (Nat×Nat×Value))
  (H:aD [] n base a)(hold:∀(k:Nat) e,eL[k]?=some e→a.tmps[e.1]?=some e.2.2)(nq:xq N all eL=true)(hS:SH M X wE L w)(hm:P.follows .mixedOrders=true)(hN:all.length=N)(hL:L.length=m)(gQ:qQ n base all=true)(jT:xm all=true)(oE:xp N m all use cons cJ=true)
  (hA:fZ N 0 λi=>Is all c9 ress use cJ i ((all[i]?).bind (·.guard))∨(rJ all c9 cJ i ((all[i]?).bind (·.guard))∧∀o,all[i]?=some o→∀a' w' y M',aD [] n base a'→(∀j∈cJ.getD i [],j≠i→∀d,eA all j=some d→a'.tmps[d]?=some ((c9 y).getD j undef))→(∀(k:Nat) e,eL[k]?=some e→(Nat.beq e.2.1 i||reach all N e.2.1 i)=true→a'.tmps[e.1]?=some e.2.2)→S0 M' (de N ress L y (use.getD i [])) w'→
   br P (tU o) a' w' λv w2=>∃g:Nat→Gh,(∀d,eA all i=some d→v=(c9 (dT y i g)).getD i undef)∧SH M' (aH (de N ress L y (use.getD i []))) w' ((ress (dT y i g)).getD i []++de N ress L y ((use.getD i []).filter λj=>!(iS (cons.getD i []) j))) w2))
  (hK:∀a' w' y,aD [] n base a'→(∀i d,eA all i=some d→a'.tmps[d]?=some ((c9 y).getD i undef))→SH M X wE (de N ress L y (tT N m cons)) w'→z.wp P (Qs N' ES R') a' w')(hl:fZ N 0 (MX c9 ress cJ):=by repeat (first|exact trivial|refine And.intro (λ_=>⟨rfl,rfl⟩) ?_)):(Code.seq (.region id all.toArray true) z).wp P (Qs N' ES R') a w:=
 a3V N m c9 ress use cons cJ eL H hold nq hS hm hN hL gQ jT oE (QZ hl) hA hK
section
variable {M:Av} {X:List Nat} {w0:World} {L:List aU}
def ki(k:Nat){α:Type}{Y:Ty α}{q:List α}{g:Gh}{ix:Int}(h:0≤ix∧ix<ln q)(hk:L[k]?=some (.im Y q g):=by rfl):Pk (SH M X w0 L):=⟨none,λ_=>dE g.a∧0≤ix∧ix<ln q,λ_ hS=>(hS.im k hk).gP h⟩
def kj(k j:Nat){α:Type}[Inhabited α]{Y:Ty α}{q:List α}{g:Gh}{ix:Int}{v:Value}(h:0≤ix∧ix<ln q)(hk:L[k]?=some (.im Y q g):=by rfl)(hv:(Y.aT (gi q ix) (g.s ix.toNat))[j]?=some v:=by rfl):Pk (SH M X w0 L):=⟨some v,cc ⟨ab g.a,ao g.a+ix.toNat*Y.z+j,none⟩ v,λ_ hS=>(hS.im k hk).cc h j hv⟩
def kI(k:Nat){α:Type}{E:TypeId}{Y:Ty α}{q:List α}{g:Gh}{ix:Int}(h:0≤ix∧ix<ln q)(hk:L[k]?=some (.own E Y q g):=by rfl):Pk (SH M X w0 L):=⟨none,λ_=>dE g.a∧0≤ix∧ix<ln q,λ_ hS=>(hS.dX k hk).gP h⟩
def kJ(k j:Nat){α:Type}[Inhabited α]{E:TypeId}{Y:Ty α}{q:List α}{g:Gh}{ix:Int}{v:Value}(h:0≤ix∧ix<ln q)(hk:L[k]?=some (.own E Y q g):=by rfl)(hv:(Y.aT (gi q ix) (g.s ix.toNat))[j]?=some v:=by rfl):Pk (SH M X w0 L):=⟨some v,cc ⟨ab g.a,ao g.a+ix.toNat*Y.z+j,none⟩ v,λ_ hS=>(hS.dX k hk).cc h j hv⟩
def iT(c:Prop)(k:Nat){α:Type}{Y:Ty α}{q:List α}{g:Gh}{ix:Int}(h:c→0≤ix∧ix<ln q)(hk:L[k]?=some (.im Y q g):=by rfl):Pk (SH M X w0 L):=⟨none,λ_=>c→dE g.a∧0≤ix∧ix<ln q,λ_ hS hc=>(hS.im k hk).gP (h hc)⟩
def jF(c:Prop)(k j:Nat){α:Type}[Inhabited α]{Y:Ty α}{q:List α}{g:Gh}{ix:Int}{v:Value}(h:c→0≤ix∧ix<ln q)(hk:L[k]?=some (.im Y q g):=by rfl)(hv:(Y.aT (gi q ix) (g.s ix.toNat))[j]?=some v:=by rfl):Pk (SH M X w0 L):=⟨some v,λw=>c→cc ⟨ab g.a,ao g.a+ix.toNat*Y.z+j,none⟩ v w,λ_ hS hc=>(hS.im k hk).cc (h hc) j hv⟩
def EV(c:Prop)(k:Nat){α:Type}{E:TypeId}{Y:Ty α}{q:List α}{g:Gh}{ix:Int}(h:c→0≤ix∧ix<ln q)(hk:L[k]?=some (.own E Y q g):=by rfl):Pk (SH M X w0 L):=⟨none,λ_=>c→dE g.a∧0≤ix∧ix<ln q,λ_ hS hc=>(hS.dX k hk).gP (h hc)⟩
def EW(c:Prop)(k j:Nat){α:Type}[Inhabited α]{E:TypeId}{Y:Ty α}{q:List α}{g:Gh}{ix:Int}{v:Value}(h:c→0≤ix∧ix<ln q)(hk:L[k]?=some (.own E Y q g):=by rfl)(hv:(Y.aT (gi q ix) (g.s ix.toNat))[j]?=some v:=by rfl):Pk (SH M X w0 L):=⟨some v,λw=>c→cc ⟨ab g.a,ao g.a+ix.toNat*Y.z+j,none⟩ v w,λ_ hS hc=>(hS.dX k hk).cc (h hc) j hv⟩
def aV(c:Prop)(k o:Nat){b:Nat}{cs:List Value}{v:Value}(hk:L[k]?=some (.lm b cs):=by rfl)(hv:cs[o]?=some v:=by rfl):Pk (SH M X w0 L):=⟨some v,λw=>c→cc ⟨b,o,none⟩ v w,λ_ h _=>(h.bk k hk).cc hv⟩
def kgo(c:Prop)(k o:Nat){b:Nat}{cs:List Value}{v:Value}(hk:L[k]?=some (.ro b cs):=by rfl)(hv:cs[o]?=some v:=by rfl):Pk (SH M X w0 L):=⟨some v,λw=>c→cc ⟨b,o,none⟩ v w,λ_ h _=>(h.ro k hk).cc hv⟩
end
section
variable {n:Nat} {M:Av} {X:List Nat} {w0:World} {l:SF} {L:List aU} {P:Program} {f:FuncId} {fn:Func} {c:Code} {args:List Value}
def Pn(v:Value)(E:List aU)(M:Av)(X:List Nat)(w:World):Ending→World→Prop:=λe w'=>∃u,e=.returned u∧u=v∧SH M X w E w'
def Pm{γ:Type}(F:γ→Value)(E:γ→List aU)(M:Av)(X:List Nat)(w:World):Ending→World→Prop:=λe w'=>∃u,e=.returned u∧∃g,u=F g∧SH M X w (E g) w'
def MY{γ:Type}(P:Program)(f:FuncId)(args:Array Value)(L:List aU)(F:γ→Value)(E:γ→List aU):Prop:=∀(M:Av)(w:World),S0 M L w→kO P f args w λv w'=>∃g,v=F g∧SH M (aH L) w (E g) w'
def XH(P:Program)(f:FuncId)(args:Array Value)(L:List aU)(v:Value)(E:List aU):Prop:=∀(M:Av)(w:World),S0 M L w→kO P f args w λu w'=>u=v∧SH M (aH L) w E w'
theorem R0{γ:Type}{i d:Nat}{x:Operand}{ar:Array Operand}{rG:Array TypeId}{ty:TypeId}{pos:String}{after:Array Edge}{f:FuncId}{av first Iy pN:List Value}{F:γ→Value}{E:γ→List aU}{L':List aU}{D:List Deferred}{all:List Oper}{N:Exit→Act→World→Prop}(kt rt ks:List Nat)(vs:List Value)(hc:MY P f ⟨av⟩ L' F E)
  (h:∀g,T D n M X w0 ((d,[],F g)::fz ks vs) (E g++ed L rt) λa w=>wpList P all.toArray N (all.drop (i+1)) a w)
  (ho:all[i]?=some ⟨some d,.call ⟨.value x,ar,rG⟩,ty,pos,after,none⟩:=by rfl)(hx:callee l [] x=some (f,first,pN):=by rfl)(ha:nY l [] ar.toList=some Iy:=by rfl)(hv:first++Iy++pN=av:=by rfl)(hL:ed L kt=L':=by rfl)
  (hd:Nat.blt d n=true:=by rfl)(hk:∀v,bc (qE l d [] v) (d::ks)=some ((d,[],v)::fz ks vs):=by exact λ_=>rfl)
  (h1:jo L kt=true:=by rfl)(h2:qM L rt kt=true:=by rfl)(h3:jo L rt=true:=by rfl):T D n M X w0 l L λa w=>wpList P all.toArray N (all.drop i) a w:=by
 subst hv hL;exact eP kt rt ks vs (λ_ _ H hS=>iJ H hx ha (hc _ _ hS)) h ho rfl rfl hd hk h1 h2 h3
theorem cA{v:Value}(hc:∀w,(callFunc f ⟨args⟩).run P w=.ok (.enter f ⟨args⟩) w)(hf:P.funcs[f]?=some fn)(hn:fn.ntmps=n)
  (h:∀(M:Av)(X:List Nat)(w:World),T [] n M X w (yW args 0) [] λa w'=>c.wp P (Qs (Rp P fn (Pn v [] M X w)) [] (Rp P fn (Pn v [] M X w))) a w')(hb:fn.body=some c:=by rfl)(hl:Nat.ble args.length n=true:=by rfl):yR P f ⟨args⟩ v:=
 a3n hc λw hS=>fk hf hb hn hl λ_ H=>h F0 (aH []) w _ _ H hS
theorem c7{v:Value}{w:World}(hL:S0 F0 L w∧aH L=[])(hc:∀w,(callFunc f ⟨args⟩).run P w=.ok (.enter f ⟨args⟩) w)(hf:P.funcs[f]?=some fn)(hn:fn.ntmps=n)
  (h:∀(M:Av)(X:List Nat)(w:World),T [] n M X w (yW args 0) L λa w'=>c.wp P (Qs (Rp P fn (Pn v [] M X w)) [] (Rp P fn (Pn v [] M X w))) a w')(hb:fn.body=some c:=by rfl)(hl:Nat.ble args.length n=true:=by rfl):jn P f ⟨args⟩ v w:=
 dF hL hc λw hS=>fk hf hb hn hl λ_ H=>h F0 (aH L) w _ _ H hS
theorem jG{γ:Type}{F:γ→Value}{E:γ→List aU}(hc:∀w,(callFunc f ⟨args⟩).run P w=.ok (.enter f ⟨args⟩) w)(hf:P.funcs[f]?=some fn)(hn:fn.ntmps=n)
  (h:∀(M:Av)(X:List Nat)(w:World),T [] n M X w (yW args 0) L λa w'=>c.wp P (Qs (Rp P fn (Pm F E M X w)) [] (Rp P fn (Pm F E M X w))) a w')(hb:fn.body=some c:=by rfl)(hl:Nat.ble args.length n=true:=by rfl):MY P f ⟨args⟩ L F E:=
 λM w hS=>⟨hc,fk hf hb hn hl λ_ H=>h M (aH L) w _ _ H hS⟩
theorem a43{v:Value}{E:List aU}(hc:∀w,(callFunc f ⟨args⟩).run P w=.ok (.enter f ⟨args⟩) w)(hf:P.funcs[f]?=some fn)(hn:fn.ntmps=n)
  (h:∀(M:Av)(X:List Nat)(w:World),T [] n M X w (yW args 0) L λa w'=>c.wp P (Qs (Rp P fn (Pn v E M X w)) [] (Rp P fn (Pn v E M X w))) a w')(hb:fn.body=some c:=by rfl)(hl:Nat.ble args.length n=true:=by rfl):XH P f ⟨args⟩ L v E:=
 λM w hS=>⟨hc,fk hf hb hn hl λ_ H=>h M (aH L) w _ _ H hS⟩
def Rs(P:Program)(fn:Func)(l:SF)(L:List aU)(v:Value):Prop:=∀n M X w0 a w (R:Ending→World→Prop),aD [] n l a→SH M X w0 L w→R (.returned v) w→Rp P fn R a w
theorem aI{E:List aU}{v:Value}(ks:List Nat)(hr:Rs P fn l L v)(hE:ed L ks=E:=by rfl)(hk:jo L ks=true:=by rfl):T [] n M X w0 l L (Rp P fn (Pn v E M X w0)):=
 λ_ _ H hS=>hr _ _ _ _ _ _ _ H hS ⟨_,rfl,rfl,hE▸hS.aY ks hk⟩
theorem dh{γ:Type}{F:γ→Value}{E:γ→List aU}(g:γ)(ks:List Nat)(hr:Rs P fn l L (F g))(hE:ed L ks=E g:=by rfl)(hk:jo L ks=true:=by rfl):T [] n M X w0 l L (Rp P fn (Pm F E M X w0)):=
 λ_ _ H hS=>hr _ _ _ _ _ _ _ H hS ⟨_,rfl,g,rfl,hE▸hS.aY ks hk⟩
theorem rs0(hr:fn.results=#[]:=by rfl):Rs P fn l L (.tuple ⟨[]⟩):=λ_ _ _ _ _ _ _ H _ hR=>a3j H hr hR
theorem XI{t:Nat}{v:Value}(hr:fn.results=#[.tmp t]:=by rfl)(h:fE l t=some ([],v):=by rfl):Rs P fn l L v:=λ_ _ _ _ _ _ _ H _ hR=>Ih H hr h hR
theorem XJ{t s:Nat}{v u:Value}(hr:fn.results=#[.tmp t,.tmp s]:=by rfl)(h:fE l t=some ([],v):=by rfl)(h2:fE l s=some ([],u):=by rfl):Rs P fn l L (.tuple ⟨[v,u]⟩):=λ_ _ _ _ _ _ _ H _ hR=>WK H hr h h2 hR
theorem rsa(k:Nat){t b:Nat}{Y:TypeId}{cs:List Value}{d:TypeDesc}(hu:P.underlying Y=some d)(hr:fn.results=#[.cell t Y]:=by rfl)(h:fE l t=some ([],.pointer (some ⟨b,0,none⟩)):=by rfl)(hk:L[k]?=some (.lm b cs):=by rfl)
  (hd:(match d with| .struct _| .array _ _=>true|_=>false)=true:=by rfl)(hz:(P.info? Y).map (·.size)=some cs.length:=by kernel_rfl):Rs P fn l L (.agg ⟨cs⟩):=λ_ _ _ _ _ _ _ H hS hR=>Ih H hr (Ii h (hS.bk k hk) hu hd hz) hR
theorem a44(k:Nat){t b s:Nat}{u:Value}{Y:TypeId}{cs:List Value}{d:TypeDesc}(hu:P.underlying Y=some d)(hr:fn.results=#[.cell t Y,.tmp s]:=by rfl)(h:fE l t=some ([],.pointer (some ⟨b,0,none⟩)):=by rfl)(h2:fE l s=some ([],u):=by rfl)(hk:L[k]?=some (.lm b cs):=by rfl)
  (hd:(match d with| .struct _| .array _ _=>true|_=>false)=true:=by rfl)(hz:(P.info? Y).map (·.size)=some cs.length:=by kernel_rfl):Rs P fn l L (.tuple ⟨[.agg ⟨cs⟩,u]⟩):=λ_ _ _ _ _ _ _ H hS hR=>WK H hr (Ii h (hS.bk k hk) hu hd hz) h2 hR
end
section
variable {P:Program} {a:Act} {w:World} {n:Nat} {l:SF} {M:Av} {D:List Deferred}
end
def mb(k:Nat):List Nat→Bool
 |[]=>false
 |x::r=>cond (Nat.beq x k) true (mb k r)
def dl(ks:List Nat):SF→SF
 |[]=>[]
 |e::r=>cond (mb e.1 ks) (dl ks r) (e::dl ks r)
def ky:SF→List Nat
 |[]=>[]
 |e::r=>e.1::ky r
def ap:SF→SF→SF
 |[],r=>r
 |e::q,r=>e::ap q r
def nf(l:SF)(dr nk:List Nat)(nv:List Value):SF:=ap (fz nk nv) (dl nk (dl dr l))
def ak:List Nat→List Nat→List Nat
 |[],r=>r
 |e::q,r=>e::ak q r
def kl(l:SF)(dr nk:List Nat):List Nat:=ak nk (ky (dl nk (dl dr l)))
section
variable {D:List Deferred} {n:Nat} {M:Av} {X:List Nat} {w0:World} {l:SF} {L:List aU} {N R:eN} {ES:List (Nat×eN)} {P:Program} {Q:Exit→Act→World→Prop} {all:List Oper} {id:Nat}
theorem BO{l':SF}{y:Code}(ks:List Nat)(q:List (Pk (SH M X w0 L)))(h:T D n M X w0 l' L λa w=>y.wp P (Qs N ES R) a w)
  (he:iQ P n all (fQ q) l ks=some (l',fR q)):T D n M X w0 l L λa w=>(Code.seq (.region id all.toArray false) y).wp P (Qs N ES R) a w:=
 λ_ _ H hS=>Bu (fQ q) ks _ (fR q) H he (vr hS q) λ_ _ H' hb=>h _ _ H' (hS.below hb)
theorem xv{l':SF}(ks:List Nat)(q:List (Pk (SH M X w0 L)))(h:T D n M X w0 l' L N)
  (he:iQ P n all (fQ q) l ks=some (l',fR q)):T D n M X w0 l L λa w=>(Code.region id all.toArray false).wp P (Qs N ES R) a w:=
 λ_ _ H hS=>Qh (fQ q) ks _ (fR q) H he (vr hS q) λ_ _ H' hb=>h _ _ H' (hS.below hb)
theorem XK{l':SF}{i:Nat}(j:Nat)(ks:List Nat)(q:List (Pk (SH M X w0 L)))(h:T D n M X w0 l' L λa w=>wpList P all.toArray Q (all.drop j) a w)
  (he:Ex P n all i j (fQ q) l ks=some (l',fR q))(ez:Nat.ble i j=true:=by rfl):T D n M X w0 l L λa w=>wpList P all.toArray Q (all.drop i) a w:=
 λ_ _ H hS=>yX i j (fQ q) ks _ (fR q) H ez he (vr hS q) λ_ _ H' hb=>h _ _ H' (hS.below hb)
theorem uR{y:Code}(dr nk:List Nat)(nv:List Value)(q:List (Pk (SH M X w0 L)))(h:T D n M X w0 (nf l dr nk nv) L λa w=>y.wp P (Qs N ES R) a w)
  (he:iQ P n all (fQ q) l (kl l dr nk)=some (nf l dr nk nv,fR q):=by kernel_rfl):T D n M X w0 l L λa w=>(Code.seq (.region id all.toArray false) y).wp P (Qs N ES R) a w:=BO _ q h he
theorem uW(dr nk:List Nat)(nv:List Value)(q:List (Pk (SH M X w0 L)))(h:T D n M X w0 (nf l dr nk nv) L N)
  (he:iQ P n all (fQ q) l (kl l dr nk)=some (nf l dr nk nv,fR q):=by kernel_rfl):T D n M X w0 l L λa w=>(Code.region id all.toArray false).wp P (Qs N ES R) a w:=xv _ q h he
theorem uB{i:Nat}(j:Nat)(dr nk:List Nat)(nv:List Value)(q:List (Pk (SH M X w0 L)))(h:T D n M X w0 (nf l dr nk nv) L λa w=>wpList P all.toArray Q (all.drop j) a w)
  (he:Ex P n all i j (fQ q) l (kl l dr nk)=some (nf l dr nk nv,fR q):=by kernel_rfl)(ez:Nat.ble i j=true:=by rfl):T D n M X w0 l L λa w=>wpList P all.toArray Q (all.drop i) a w:=XK j _ q h he ez
theorem uA{y:Code}(k:Nat)(v:Value)(q:List (Pk (SH M X w0 L)))(h:T D n M X w0 (nf l [] [k] [v]) L λa w=>y.wp P (Qs N ES R) a w)
  (he:iQ P n all (fQ q) l (kl l [] [k])=some (nf l [] [k] [v],fR q):=by kernel_rfl):T D n M X w0 l L λa w=>(Code.seq (.region id all.toArray false) y).wp P (Qs N ES R) a w:=BO _ q h he
theorem uV(k:Nat)(v:Value)(q:List (Pk (SH M X w0 L)))(h:T D n M X w0 (nf l [] [k] [v]) L N)
  (he:iQ P n all (fQ q) l (kl l [] [k])=some (nf l [] [k] [v],fR q):=by kernel_rfl):T D n M X w0 l L λa w=>(Code.region id all.toArray false).wp P (Qs N ES R) a w:=xv _ q h he
theorem uJ{α:Type}{k:Nat}{x y:Code}{t:Bool}{p s r:α}(dr:List Nat)(q:List (Pk (SH M X w0 L)))(hm:cond t p s=r)(h1:p=r→T D n M X w0 (dl dr l) L λa w=>x.wp P (Qs N ES R) a w)(h2:s=r→T D n M X w0 (dl dr l) L λa w=>y.wp P (Qs N ES R) a w)
  (he:iQ P n all (fQ q) l (k::ky (dl dr l))=some ((k,[],.bool t)::dl dr l,fR q):=by kernel_rfl):T D n M X w0 l L λa w=>(Code.seq (.region id all.toArray false) (.cond (.tmp k) x y)).wp P (Qs N ES R) a w:=
 BO _ q (QY (l:=(k,[],.bool t)::dl dr l) hm (λh a w H hS=>h1 h a w (H.mono λ_ he=>List.mem_cons_of_mem _ he) hS) (λh a w H hS=>h2 h a w (H.mono λ_ he=>List.mem_cons_of_mem _ he) hS) (by simp[ev,fE,qD])) he
theorem XL{α:Type}{k:Nat}{x y:Code}{t:Bool}{s:Option α}{r:α}(dr:List Nat)(q:List (Pk (SH M X w0 L)))(hm:cond t none s=some r)(h2:s=some r→T D n M X w0 (dl dr l) L λa w=>y.wp P (Qs N ES R) a w)
  (he:iQ P n all (fQ q) l (k::ky (dl dr l))=some ((k,[],.bool t)::dl dr l,fR q):=by kernel_rfl):T D n M X w0 l L λa w=>(Code.seq (.region id all.toArray false) (.cond (.tmp k) x y)).wp P (Qs N ES R) a w:=uJ dr q hm (λh=>eJ h) h2 he
theorem uC{α:Type}{c:Operand}{x y:Code}{t:Bool}{p s r:α}(hm:cond t p s=r)(h1:p=r→T D n M X w0 l L λa w=>x.wp P (Qs N ES R) a w)(h2:s=r→T D n M X w0 l L λa w=>y.wp P (Qs N ES R) a w)(hc:ev l [] c=some (.bool t):=by kernel_rfl):
  T D n M X w0 l L λa w=>(Code.cond c x y).wp P (Qs N ES R) a w:=QY hm h1 h2 hc
theorem uO{y:Code}(q:List (Pk (SH M X w0 L)))(h:T D n M X w0 l L λa w=>y.wp P (Qs N ES R) a w)
  (he:iQ P n all (fQ q) l (ky l)=some (l,fR q):=by kernel_rfl):T D n M X w0 l L λa w=>(Code.seq (.region id all.toArray false) y).wp P (Qs N ES R) a w:=BO _ q h he
theorem uP{i:Nat}(j:Nat)(q:List (Pk (SH M X w0 L)))(h:T D n M X w0 l L λa w=>wpList P all.toArray Q (all.drop j) a w)
  (he:Ex P n all i j (fQ q) l (ky l)=some (l,fR q):=by kernel_rfl)(ez:Nat.ble i j=true:=by rfl):T D n M X w0 l L λa w=>wpList P all.toArray Q (all.drop i) a w:=XK j _ q h he ez
theorem uI{α:Type}{k:Nat}{x y:Code}{t:Bool}{p s r:α}(q:List (Pk (SH M X w0 L)))(hm:cond t p s=r)(h1:p=r→T D n M X w0 l L λa w=>x.wp P (Qs N ES R) a w)(h2:s=r→T D n M X w0 l L λa w=>y.wp P (Qs N ES R) a w)
  (he:iQ P n all (fQ q) l (k::ky l)=some ((k,[],.bool t)::l,fR q):=by kernel_rfl):T D n M X w0 l L λa w=>(Code.seq (.region id all.toArray false) (.cond (.tmp k) x y)).wp P (Qs N ES R) a w:=
 BO _ q (QY (l:=(k,[],.bool t)::l) hm (λh a w H hS=>h1 h a w (H.mono λ_ he=>List.mem_cons_of_mem _ he) hS) (λh a w H hS=>h2 h a w (H.mono λ_ he=>List.mem_cons_of_mem _ he) hS) (by simp[ev,fE,qD])) he
theorem uI1{α:Type}{k:Nat}{x y:Code}{t:Bool}{p:Option α}{r:α}(q:List (Pk (SH M X w0 L)))(hm:cond t p none=some r)(h1:p=some r→T D n M X w0 l L λa w=>x.wp P (Qs N ES R) a w)
  (he:iQ P n all (fQ q) l (k::ky l)=some ((k,[],.bool t)::l,fR q):=by kernel_rfl):T D n M X w0 l L λa w=>(Code.seq (.region id all.toArray false) (.cond (.tmp k) x y)).wp P (Qs N ES R) a w:=uI q hm h1 (λh=>eJ h) he
theorem uI2{α:Type}{k:Nat}{x y:Code}{t:Bool}{s:Option α}{r:α}(q:List (Pk (SH M X w0 L)))(hm:cond t none s=some r)(h2:s=some r→T D n M X w0 l L λa w=>y.wp P (Qs N ES R) a w)
  (he:iQ P n all (fQ q) l (k::ky l)=some ((k,[],.bool t)::l,fR q):=by kernel_rfl):T D n M X w0 l L λa w=>(Code.seq (.region id all.toArray false) (.cond (.tmp k) x y)).wp P (Qs N ES R) a w:=uI q hm (λh=>eJ h) h2 he
theorem uN{i:Nat}{o:Oper}{E:List aU}(kt rt:List Nat)
  (hs:∀a w,aD D n l a→S0 (fK M (ed L rt)) (ed L kt) w→br P o a w λ_ w'=>SH (fK M (ed L rt)) (aH (ed L kt)) w E w')
  (h:T D n M X w0 l (E++ed L rt) λa w=>wpList P all.toArray Q (all.drop (i+1)) a w)
  (ho:all[i]?=some o:=by rfl)(hg:o.guard=none:=by rfl)(pQ:o.dst=none:=by rfl)(hk:bc l (ky l)=some l:=by kernel_rfl)
  (h1:jo L kt=true:=by rfl)(h2:qM L rt kt=true:=by rfl)(h3:jo L rt=true:=by rfl):T D n M X w0 l L λa w=>wpList P all.toArray Q (all.drop i) a w:=
 λ_ w H hS=>sH (ky l) _ H ho hg pQ (hs _ w H (hS.hand kt rt h1 h2)) hk λ_ _ H' ⟨_,hq⟩=>h _ _ H' (hS.join kt rt h3 h2 hq)
theorem uM{γ:Type}{i d:Nat}{o:Oper}{F:γ→Value}{E:γ→List aU}(kt rt dr:List Nat)
  (hs:∀a w,aD D n l a→S0 (fK M (ed L rt)) (ed L kt) w→br P o a w λv w'=>∃g,v=F g∧SH (fK M (ed L rt)) (aH (ed L kt)) w (E g) w')
  (h:∀g,T D n M X w0 ((d,[],F g)::dl (d::dr) l) (E g++ed L rt) λa w=>wpList P all.toArray Q (all.drop (i+1)) a w)
  (ho:all[i]?=some o:=by rfl)(hg:o.guard=none:=by rfl)(pQ:o.dst=some d:=by rfl)(hd:Nat.blt d n=true:=by rfl)(hk:∀v,bc (qE l d [] v) (d::ky (dl (d::dr) l))=some ((d,[],v)::dl (d::dr) l):=by intro v;kernel_rfl)
  (h1:jo L kt=true:=by rfl)(h2:qM L rt kt=true:=by rfl)(h3:jo L rt=true:=by rfl):T D n M X w0 l L λa w=>wpList P all.toArray Q (all.drop i) a w:=
 λ_ w H hS=>tQ (d::ky (dl (d::dr) l)) _ H ho hg pQ hd (hs _ w H (hS.hand kt rt h1 h2)) hk λ_ _ _ H' ⟨g,e,hq⟩=>h g _ _ (e▸H') (hS.join kt rt h3 h2 hq)
theorem uL{i:Nat}{o:Oper}{E:List aU}(kt rt dr:List Nat)
  (hs:∀a w,aD D n l a→S0 (fK M (ed L rt)) (ed L kt) w→br P o a w λ_ w'=>SH (fK M (ed L rt)) (aH (ed L kt)) w E w')
  (h:T D n M X w0 (dl dr l) (E++ed L rt) λa w=>wpList P all.toArray Q (all.drop (i+1)) a w)
  (ho:all[i]?=some o:=by rfl)(hg:o.guard=none:=by rfl)(pQ:o.dst=none:=by rfl)(hk:bc l (ky (dl dr l))=some (dl dr l):=by kernel_rfl)
  (h1:jo L kt=true:=by rfl)(h2:qM L rt kt=true:=by rfl)(h3:jo L rt=true:=by rfl):T D n M X w0 l L λa w=>wpList P all.toArray Q (all.drop i) a w:=
 λ_ w H hS=>sH (ky (dl dr l)) _ H ho hg pQ (hs _ w H (hS.hand kt rt h1 h2)) hk λ_ _ H' ⟨_,hq⟩=>h _ _ H' (hS.join kt rt h3 h2 hq)
theorem uQ{γ:Type}{i d:Nat}{x:Operand}{ar:Array Operand}{rG:Array TypeId}{ty:TypeId}{pos:String}{after:Array Edge}{f:FuncId}{av first Iy pN:List Value}{F:γ→Value}{E:γ→List aU}{L':List aU}(kt rt dr:List Nat)(hc:MY P f ⟨av⟩ L' F E)
  (h:∀g,T D n M X w0 ((d,[],F g)::dl (d::dr) l) (E g++ed L rt) λa w=>wpList P all.toArray Q (all.drop (i+1)) a w)
  (ho:all[i]?=some ⟨some d,.call ⟨.value x,ar,rG⟩,ty,pos,after,none⟩:=by rfl)(hx:callee l [] x=some (f,first,pN):=by rfl)(ha:nY l [] ar.toList=some Iy:=by rfl)(hv:first++Iy++pN=av:=by rfl)(hL:ed L kt=L':=by rfl)
  (hd:Nat.blt d n=true:=by rfl)(hk:∀v,bc (qE l d [] v) (d::ky (dl (d::dr) l))=some ((d,[],v)::dl (d::dr) l):=by intro v;kernel_rfl)
  (h1:jo L kt=true:=by rfl)(h2:qM L rt kt=true:=by rfl)(h3:jo L rt=true:=by rfl):T D n M X w0 l L λa w=>wpList P all.toArray Q (all.drop i) a w:=by
 subst hv hL;exact uM kt rt dr (λ_ _ H hS=>iJ H hx ha (hc _ _ hS)) h ho rfl rfl hd hk h1 h2 h3
theorem te{l':SF}{L':List aU}(hl:bc l (ky l')=some l':=by kernel_rfl)(hL:L=L':=by rfl):T D n M X w0 l L (Cu D n M X w0 l' L'):=t_e _ hl hL
abbrev Cs{ρ γ:Type}(z:Sum ρ γ)(D:List Deferred)(n:Nat)(M:Av)(X:List Nat)(w0:World)(l:γ→SF)(L:γ→List aU):eN:=λa w=>∃s,z=Sum.inr s∧aD D n (l s) a∧SH M X w0 (L s) w
theorem uS{ρ γ:Type}{z:Sum ρ γ}{x y:Code}(dr nk:List Nat)(nv:γ→List Value)(L':γ→List aU)(h:T D n M X w0 l L λa w=>x.wp P (Qs (Cs z D n M X w0 (λs=>nf l dr nk (nv s)) L') ES R) a w)(h2:∀s,z=Sum.inr s→T D n M X w0 (nf l dr nk (nv s)) (L' s) λa w=>y.wp P (Qs N ES R) a w):
  T D n M X w0 l L λa w=>(Code.seq x y).wp P (Qs N ES R) a w:=λ_ _ H hS=>df _ (h _ _ H hS) λa w ⟨s,hz,h⟩=>h2 s hz a w h.1 h.2
theorem ts{ρ γ:Type}{s:γ}{l':γ→SF}{L':γ→List aU}(hl:bc l (ky (l' s))=some (l' s):=by kernel_rfl)(hL:L=L' s:=by rfl):T D n M X w0 l L (Cs (Sum.inr s:Sum ρ γ) D n M X w0 l' L'):=λ_ _ H hS=>⟨s,rfl,aD.bc H hl,by rw[←hL];exact hS⟩
theorem XM{ρ γ:Type}{s:γ}{l':γ→SF}{L':γ→List aU}{a:Act}{w:World}(H:aD D n l a)(hS:SH M X w0 L w)(hl:bc l (ky (l' s))=some (l' s):=by kernel_rfl)(hL:L=L' s:=by rfl):Cs (Sum.inr s:Sum ρ γ) D n M X w0 l' L' a w:=ts hl hL a w H hS
theorem uK{x y:Code}(dr nk:List Nat)(nv:List Value)(L':List aU)(h:T D n M X w0 l L λa w=>x.wp P (Qs (Cu D n M X w0 (nf l dr nk nv) L') ES R) a w)(h2:T D n M X w0 (nf l dr nk nv) L' λa w=>y.wp P (Qs N ES R) a w):
  T D n M X w0 l L λa w=>(Code.seq x y).wp P (Qs N ES R) a w:=λ_ _ H hS=>df _ (h _ _ H hS) λa w h=>h2 a w h.1 h.2
theorem gb{γ:Type}{x y:Code}(dr nk:List Nat)(nv:γ→List Value)(L':γ→List aU)(h:T D n M X w0 l L λa w=>x.wp P (Qs (Cg D n M X w0 (λg=>nf l dr nk (nv g)) L') ES R) a w)(h2:∀g,T D n M X w0 (nf l dr nk (nv g)) (L' g) λa w=>y.wp P (Qs N ES R) a w):
  T D n M X w0 l L λa w=>(Code.seq x y).wp P (Qs N ES R) a w:=λ_ _ H hS=>df _ (h _ _ H hS) λa w ⟨g,h⟩=>h2 g a w h.1 h.2
theorem tg{γ:Type}{l':γ→SF}{L':γ→List aU}(g:γ)(hl:bc l (ky (l' g))=some (l' g):=by kernel_rfl)(hL:L=L' g:=by rfl):T D n M X w0 l L (Cg D n M X w0 l' L'):=a41 g _ hl hL
end
section
variable {D:List Deferred} {n:Nat} {M:Av} {X:List Nat} {w0:World} {l:SF} {L:List aU} {N R:eN} {ES:List (Nat×eN)} {P:Program} {c:Code} {ρ α β δ ε γ:Type} {all:List Oper} {id:Nat}
abbrev R3(F:Nat→α→Option ρ)(r:ρ)(k:Nat)(D:List Deferred)(n:Nat)(M:Av)(X:List Nat)(w0:World)(l:α→SF)(L:α→List aU):eN:=λa w=>∃m,m<k∧∃x,F m x=some r∧aD D n (l x) a∧SH M X w0 (L x) w
theorem dH{F:Nat→α→Option ρ}{r:ρ}{k:Nat}{x:α}(dr nk:List Nat)(nv:α→List Value)(L':α→List aU)(hm:F k x=some r)(h:∀k x,F (k+1) x=some r→T D n M X w0 (nf l dr nk (nv x)) (L' x) λa w=>c.wp P (Qs (R3 F r (k+1) D n M X w0 (λx=>nf l dr nk (nv x)) L') ES R) a w)
  (hz:∀x,F 0 x=none:=by intros;rfl)(hl:bc l (kl l dr nk)=some (nf l dr nk (nv x)):=by kernel_rfl)(hL:L=L' x:=by rfl):T D n M X w0 l L λa w=>(Code.loop c).wp P (Qs N ES R) a w:=
 λa w H hS=>tM (λk a w=>∃x,F k x=some r∧aD D n (nf l dr nk (nv x)) a∧SH M X w0 (L' x) w) ⟨k,x,hm,aD.bc H hl,by rw[←hL];exact hS⟩ λm a w=>by
  rintro⟨x,hm,H,hS⟩;cases m with
  |zero=>rw[hz]at hm;cases hm
  |succ k=>exact h k x hm a w H hS
theorem ug1{F:Nat→α→Option ρ}{r:ρ}{k:Nat}{x:α}{lf:α→SF}{Lf:α→List aU}(hm:F k x=some r)(hl:bc l (ky (lf x))=some (lf x):=by kernel_rfl)(hL:L=Lf x:=by rfl):T D n M X w0 l L (R3 F r (k+1) D n M X w0 lf Lf):=
 λ_ _ H hS=>⟨k,Nat.lt_succ_self _,x,hm,aD.bc H hl,by rw[←hL];exact hS⟩
theorem dI{F:Nat→α→Option ρ}{r:ρ}{k:Nat}{x:α}{lf:α→SF}{Lf:α→List aU}(q:List (Pk (SH M X w0 L)))(hm:F k x=some r)(he:iQ P n all (fQ q) l (ky (lf x))=some (lf x,fR q):=by kernel_rfl)(hL:L=Lf x:=by rfl):T D n M X w0 l L λa w=>(Code.region id all.toArray false).wp P (Qs (R3 F r (k+1) D n M X w0 lf Lf) ES R) a w:=
 xv _ q (λ_ _ H hS=>⟨k,Nat.lt_succ_self _,x,hm,H,by rw[←hL];exact hS⟩) he
abbrev R4(F:Nat→α→β→Option ρ)(r:ρ)(k:Nat)(D:List Deferred)(n:Nat)(M:Av)(X:List Nat)(w0:World)(l:α→β→SF)(L:α→β→List aU):eN:=λa w=>∃m,m<k∧∃x,∃y,F m x y=some r∧aD D n (l x y) a∧SH M X w0 (L x y) w
theorem fu{F:Nat→α→β→Option ρ}{r:ρ}{k:Nat}{x:α}{y:β}(dr nk:List Nat)(nv:α→β→List Value)(L':α→β→List aU)(hm:F k x y=some r)(h:∀k x y,F (k+1) x y=some r→T D n M X w0 (nf l dr nk (nv x y)) (L' x y) λa w=>c.wp P (Qs (R4 F r (k+1) D n M X w0 (λx y=>nf l dr nk (nv x y)) L') ES R) a w)
  (hz:∀x y,F 0 x y=none:=by intros;rfl)(hl:bc l (kl l dr nk)=some (nf l dr nk (nv x y)):=by kernel_rfl)(hL:L=L' x y:=by rfl):T D n M X w0 l L λa w=>(Code.loop c).wp P (Qs N ES R) a w:=
 λa w H hS=>tM (λk a w=>∃x,∃y,F k x y=some r∧aD D n (nf l dr nk (nv x y)) a∧SH M X w0 (L' x y) w) ⟨k,x,y,hm,aD.bc H hl,by rw[←hL];exact hS⟩ λm a w=>by
  rintro⟨x,y,hm,H,hS⟩;cases m with
  |zero=>rw[hz]at hm;cases hm
  |succ k=>exact h k x y hm a w H hS
theorem R5{F:Nat→α→β→Option ρ}{r:ρ}{k:Nat}{x:α}{y:β}{lf:α→β→SF}{Lf:α→β→List aU}(hm:F k x y=some r)(hl:bc l (ky (lf x y))=some (lf x y):=by kernel_rfl)(hL:L=Lf x y:=by rfl):T D n M X w0 l L (R4 F r (k+1) D n M X w0 lf Lf):=
 λ_ _ H hS=>⟨k,Nat.lt_succ_self _,x,y,hm,aD.bc H hl,by rw[←hL];exact hS⟩
theorem fb{F:Nat→α→β→Option ρ}{r:ρ}{k:Nat}{x:α}{y:β}{lf:α→β→SF}{Lf:α→β→List aU}(q:List (Pk (SH M X w0 L)))(hm:F k x y=some r)(he:iQ P n all (fQ q) l (ky (lf x y))=some (lf x y,fR q):=by kernel_rfl)(hL:L=Lf x y:=by rfl):T D n M X w0 l L λa w=>(Code.region id all.toArray false).wp P (Qs (R4 F r (k+1) D n M X w0 lf Lf) ES R) a w:=
 xv _ q (λ_ _ H hS=>⟨k,Nat.lt_succ_self _,x,y,hm,H,by rw[←hL];exact hS⟩) he
abbrev R6(F:Nat→α→β→Option ρ)(r:ρ)(k:Nat)(D:List Deferred)(n:Nat)(M:Av)(X:List Nat)(w0:World)(l:α→β→γ→SF)(L:α→β→γ→List aU):eN:=λa w=>∃m,m<k∧∃x,∃y,∃g,F m x y=some r∧aD D n (l x y g) a∧SH M X w0 (L x y g) w
theorem mF{F:Nat→α→β→Option ρ}{r:ρ}{k:Nat}{x:α}{y:β}(dr nk:List Nat)(nv:α→β→γ→List Value)(L':α→β→γ→List aU)(g:γ)(hm:F k x y=some r)(h:∀k x y g,F (k+1) x y=some r→T D n M X w0 (nf l dr nk (nv x y g)) (L' x y g) λa w=>c.wp P (Qs (R6 F r (k+1) D n M X w0 (λx y g=>nf l dr nk (nv x y g)) L') ES R) a w)
  (hz:∀x y,F 0 x y=none:=by intros;rfl)(hl:bc l (kl l dr nk)=some (nf l dr nk (nv x y g)):=by kernel_rfl)(hL:L=L' x y g:=by rfl):T D n M X w0 l L λa w=>(Code.loop c).wp P (Qs N ES R) a w:=
 λa w H hS=>tM (λk a w=>∃x,∃y,∃g,F k x y=some r∧aD D n (nf l dr nk (nv x y g)) a∧SH M X w0 (L' x y g) w) ⟨k,x,y,g,hm,aD.bc H hl,by rw[←hL];exact hS⟩ λm a w=>by
  rintro⟨x,y,g,hm,H,hS⟩;cases m with
  |zero=>rw[hz]at hm;cases hm
  |succ k=>exact h k x y g hm a w H hS
theorem EX{F:Nat→α→β→Option ρ}{r:ρ}{k:Nat}{x:α}{y:β}{lf:α→β→γ→SF}{Lf:α→β→γ→List aU}(g:γ)(hm:F k x y=some r)(hl:bc l (ky (lf x y g))=some (lf x y g):=by kernel_rfl)(hL:L=Lf x y g:=by rfl):T D n M X w0 l L (R6 F r (k+1) D n M X w0 lf Lf):=
 λ_ _ H hS=>⟨k,Nat.lt_succ_self _,x,y,g,hm,aD.bc H hl,by rw[←hL];exact hS⟩
theorem rL{F:Nat→α→β→Option ρ}{r:ρ}{k:Nat}{x:α}{y:β}{lf:α→β→γ→SF}{Lf:α→β→γ→List aU}(q:List (Pk (SH M X w0 L)))(g:γ)(hm:F k x y=some r)(he:iQ P n all (fQ q) l (ky (lf x y g))=some (lf x y g,fR q):=by kernel_rfl)(hL:L=Lf x y g:=by rfl):T D n M X w0 l L λa w=>(Code.region id all.toArray false).wp P (Qs (R6 F r (k+1) D n M X w0 lf Lf) ES R) a w:=
 xv _ q (λ_ _ H hS=>⟨k,Nat.lt_succ_self _,x,y,g,hm,H,by rw[←hL];exact hS⟩) he
abbrev R7(F:Nat→α→β→δ→Option ρ)(r:ρ)(k:Nat)(D:List Deferred)(n:Nat)(M:Av)(X:List Nat)(w0:World)(l:α→β→δ→SF)(L:α→β→δ→List aU):eN:=λa w=>∃m,m<k∧∃x,∃y,∃u,F m x y u=some r∧aD D n (l x y u) a∧SH M X w0 (L x y u) w
theorem MZ{F:Nat→α→β→δ→Option ρ}{r:ρ}{k:Nat}{x:α}{y:β}{u:δ}(dr nk:List Nat)(nv:α→β→δ→List Value)(L':α→β→δ→List aU)(hm:F k x y u=some r)(h:∀k x y u,F (k+1) x y u=some r→T D n M X w0 (nf l dr nk (nv x y u)) (L' x y u) λa w=>c.wp P (Qs (R7 F r (k+1) D n M X w0 (λx y u=>nf l dr nk (nv x y u)) L') ES R) a w)
  (hz:∀x y u,F 0 x y u=none:=by intros;rfl)(hl:bc l (kl l dr nk)=some (nf l dr nk (nv x y u)):=by kernel_rfl)(hL:L=L' x y u:=by rfl):T D n M X w0 l L λa w=>(Code.loop c).wp P (Qs N ES R) a w:=
 λa w H hS=>tM (λk a w=>∃x,∃y,∃u,F k x y u=some r∧aD D n (nf l dr nk (nv x y u)) a∧SH M X w0 (L' x y u) w) ⟨k,x,y,u,hm,aD.bc H hl,by rw[←hL];exact hS⟩ λm a w=>by
  rintro⟨x,y,u,hm,H,hS⟩;cases m with
  |zero=>rw[hz]at hm;cases hm
  |succ k=>exact h k x y u hm a w H hS
theorem ug3{F:Nat→α→β→δ→Option ρ}{r:ρ}{k:Nat}{x:α}{y:β}{u:δ}{lf:α→β→δ→SF}{Lf:α→β→δ→List aU}(hm:F k x y u=some r)(hl:bc l (ky (lf x y u))=some (lf x y u):=by kernel_rfl)(hL:L=Lf x y u:=by rfl):T D n M X w0 l L (R7 F r (k+1) D n M X w0 lf Lf):=
 λ_ _ H hS=>⟨k,Nat.lt_succ_self _,x,y,u,hm,aD.bc H hl,by rw[←hL];exact hS⟩
theorem R8{F:Nat→α→β→δ→Option ρ}{r:ρ}{k:Nat}{x:α}{y:β}{u:δ}{lf:α→β→δ→SF}{Lf:α→β→δ→List aU}(q:List (Pk (SH M X w0 L)))(hm:F k x y u=some r)(he:iQ P n all (fQ q) l (ky (lf x y u))=some (lf x y u,fR q):=by kernel_rfl)(hL:L=Lf x y u:=by rfl):T D n M X w0 l L λa w=>(Code.region id all.toArray false).wp P (Qs (R7 F r (k+1) D n M X w0 lf Lf) ES R) a w:=
 xv _ q (λ_ _ H hS=>⟨k,Nat.lt_succ_self _,x,y,u,hm,H,by rw[←hL];exact hS⟩) he
abbrev R9(F:Nat→α→β→δ→Option ρ)(r:ρ)(k:Nat)(D:List Deferred)(n:Nat)(M:Av)(X:List Nat)(w0:World)(l:α→β→δ→γ→SF)(L:α→β→δ→γ→List aU):eN:=λa w=>∃m,m<k∧∃x,∃y,∃u,∃g,F m x y u=some r∧aD D n (l x y u g) a∧SH M X w0 (L x y u g) w
theorem XN{F:Nat→α→β→δ→Option ρ}{r:ρ}{k:Nat}{x:α}{y:β}{u:δ}(dr nk:List Nat)(nv:α→β→δ→γ→List Value)(L':α→β→δ→γ→List aU)(g:γ)(hm:F k x y u=some r)(h:∀k x y u g,F (k+1) x y u=some r→T D n M X w0 (nf l dr nk (nv x y u g)) (L' x y u g) λa w=>c.wp P (Qs (R9 F r (k+1) D n M X w0 (λx y u g=>nf l dr nk (nv x y u g)) L') ES R) a w)
  (hz:∀x y u,F 0 x y u=none:=by intros;rfl)(hl:bc l (kl l dr nk)=some (nf l dr nk (nv x y u g)):=by kernel_rfl)(hL:L=L' x y u g:=by rfl):T D n M X w0 l L λa w=>(Code.loop c).wp P (Qs N ES R) a w:=
 λa w H hS=>tM (λk a w=>∃x,∃y,∃u,∃g,F k x y u=some r∧aD D n (nf l dr nk (nv x y u g)) a∧SH M X w0 (L' x y u g) w) ⟨k,x,y,u,g,hm,aD.bc H hl,by rw[←hL];exact hS⟩ λm a w=>by
  rintro⟨x,y,u,g,hm,H,hS⟩;cases m with
  |zero=>rw[hz]at hm;cases hm
  |succ k=>exact h k x y u g hm a w H hS
theorem a45{F:Nat→α→β→δ→Option ρ}{r:ρ}{k:Nat}{x:α}{y:β}{u:δ}{lf:α→β→δ→γ→SF}{Lf:α→β→δ→γ→List aU}(g:γ)(hm:F k x y u=some r)(hl:bc l (ky (lf x y u g))=some (lf x y u g):=by kernel_rfl)(hL:L=Lf x y u g:=by rfl):T D n M X w0 l L (R9 F r (k+1) D n M X w0 lf Lf):=
 λ_ _ H hS=>⟨k,Nat.lt_succ_self _,x,y,u,g,hm,aD.bc H hl,by rw[←hL];exact hS⟩
theorem a47{F:Nat→α→β→δ→Option ρ}{r:ρ}{k:Nat}{x:α}{y:β}{u:δ}{lf:α→β→δ→γ→SF}{Lf:α→β→δ→γ→List aU}(q:List (Pk (SH M X w0 L)))(g:γ)(hm:F k x y u=some r)(he:iQ P n all (fQ q) l (ky (lf x y u g))=some (lf x y u g,fR q):=by kernel_rfl)(hL:L=Lf x y u g:=by rfl):T D n M X w0 l L λa w=>(Code.region id all.toArray false).wp P (Qs (R9 F r (k+1) D n M X w0 lf Lf) ES R) a w:=
 xv _ q (λ_ _ H hS=>⟨k,Nat.lt_succ_self _,x,y,u,g,hm,H,by rw[←hL];exact hS⟩) he
abbrev Ra(F:Nat→α→β→δ→ε→Option ρ)(r:ρ)(k:Nat)(D:List Deferred)(n:Nat)(M:Av)(X:List Nat)(w0:World)(l:α→β→δ→ε→SF)(L:α→β→δ→ε→List aU):eN:=λa w=>∃m,m<k∧∃x,∃y,∃u,∃v,F m x y u v=some r∧aD D n (l x y u v) a∧SH M X w0 (L x y u v) w
theorem N0{F:Nat→α→β→δ→ε→Option ρ}{r:ρ}{k:Nat}{x:α}{y:β}{u:δ}{v:ε}(dr nk:List Nat)(nv:α→β→δ→ε→List Value)(L':α→β→δ→ε→List aU)(hm:F k x y u v=some r)(h:∀k x y u v,F (k+1) x y u v=some r→T D n M X w0 (nf l dr nk (nv x y u v)) (L' x y u v) λa w=>c.wp P (Qs (Ra F r (k+1) D n M X w0 (λx y u v=>nf l dr nk (nv x y u v)) L') ES R) a w)
  (hz:∀x y u v,F 0 x y u v=none:=by intros;rfl)(hl:bc l (kl l dr nk)=some (nf l dr nk (nv x y u v)):=by kernel_rfl)(hL:L=L' x y u v:=by rfl):T D n M X w0 l L λa w=>(Code.loop c).wp P (Qs N ES R) a w:=
 λa w H hS=>tM (λk a w=>∃x,∃y,∃u,∃v,F k x y u v=some r∧aD D n (nf l dr nk (nv x y u v)) a∧SH M X w0 (L' x y u v) w) ⟨k,x,y,u,v,hm,aD.bc H hl,by rw[←hL];exact hS⟩ λm a w=>by
  rintro⟨x,y,u,v,hm,H,hS⟩;cases m with
  |zero=>rw[hz]at hm;cases hm
  |succ k=>exact h k x y u v hm a w H hS
theorem ug4{F:Nat→α→β→δ→ε→Option ρ}{r:ρ}{k:Nat}{x:α}{y:β}{u:δ}{v:ε}{lf:α→β→δ→ε→SF}{Lf:α→β→δ→ε→List aU}(hm:F k x y u v=some r)(hl:bc l (ky (lf x y u v))=some (lf x y u v):=by kernel_rfl)(hL:L=Lf x y u v:=by rfl):T D n M X w0 l L (Ra F r (k+1) D n M X w0 lf Lf):=
 λ_ _ H hS=>⟨k,Nat.lt_succ_self _,x,y,u,v,hm,aD.bc H hl,by rw[←hL];exact hS⟩
theorem Rc{F:Nat→α→β→δ→ε→Option ρ}{r:ρ}{k:Nat}{x:α}{y:β}{u:δ}{v:ε}{lf:α→β→δ→ε→SF}{Lf:α→β→δ→ε→List aU}(q:List (Pk (SH M X w0 L)))(hm:F k x y u v=some r)(he:iQ P n all (fQ q) l (ky (lf x y u v))=some (lf x y u v,fR q):=by kernel_rfl)(hL:L=Lf x y u v:=by rfl):T D n M X w0 l L λa w=>(Code.region id all.toArray false).wp P (Qs (Ra F r (k+1) D n M X w0 lf Lf) ES R) a w:=
 xv _ q (λ_ _ H hS=>⟨k,Nat.lt_succ_self _,x,y,u,v,hm,H,by rw[←hL];exact hS⟩) he
abbrev Re(F:Nat→α→β→δ→ε→Option ρ)(r:ρ)(k:Nat)(D:List Deferred)(n:Nat)(M:Av)(X:List Nat)(w0:World)(l:α→β→δ→ε→γ→SF)(L:α→β→δ→ε→γ→List aU):eN:=λa w=>∃m,m<k∧∃x,∃y,∃u,∃v,∃g,F m x y u v=some r∧aD D n (l x y u v g) a∧SH M X w0 (L x y u v g) w
theorem a48{F:Nat→α→β→δ→ε→Option ρ}{r:ρ}{k:Nat}{x:α}{y:β}{u:δ}{v:ε}(dr nk:List Nat)(nv:α→β→δ→ε→γ→List Value)(L':α→β→δ→ε→γ→List aU)(g:γ)(hm:F k x y u v=some r)(h:∀k x y u v g,F (k+1) x y u v=some r→T D n M X w0 (nf l dr nk (nv x y u v g)) (L' x y u v g) λa w=>c.wp P (Qs (Re F r (k+1) D n M X w0 (λx y u v g=>nf l dr nk (nv x y u v g)) L') ES R) a w)
  (hz:∀x y u v,F 0 x y u v=none:=by intros;rfl)(hl:bc l (kl l dr nk)=some (nf l dr nk (nv x y u v g)):=by kernel_rfl)(hL:L=L' x y u v g:=by rfl):T D n M X w0 l L λa w=>(Code.loop c).wp P (Qs N ES R) a w:=
 λa w H hS=>tM (λk a w=>∃x,∃y,∃u,∃v,∃g,F k x y u v=some r∧aD D n (nf l dr nk (nv x y u v g)) a∧SH M X w0 (L' x y u v g) w) ⟨k,x,y,u,v,g,hm,aD.bc H hl,by rw[←hL];exact hS⟩ λm a w=>by
  rintro⟨x,y,u,v,g,hm,H,hS⟩;cases m with
  |zero=>rw[hz]at hm;cases hm
  |succ k=>exact h k x y u v g hm a w H hS
theorem a4a{F:Nat→α→β→δ→ε→Option ρ}{r:ρ}{k:Nat}{x:α}{y:β}{u:δ}{v:ε}{lf:α→β→δ→ε→γ→SF}{Lf:α→β→δ→ε→γ→List aU}(g:γ)(hm:F k x y u v=some r)(hl:bc l (ky (lf x y u v g))=some (lf x y u v g):=by kernel_rfl)(hL:L=Lf x y u v g:=by rfl):T D n M X w0 l L (Re F r (k+1) D n M X w0 lf Lf):=
 λ_ _ H hS=>⟨k,Nat.lt_succ_self _,x,y,u,v,g,hm,aD.bc H hl,by rw[←hL];exact hS⟩
theorem a4b{F:Nat→α→β→δ→ε→Option ρ}{r:ρ}{k:Nat}{x:α}{y:β}{u:δ}{v:ε}{lf:α→β→δ→ε→γ→SF}{Lf:α→β→δ→ε→γ→List aU}(q:List (Pk (SH M X w0 L)))(g:γ)(hm:F k x y u v=some r)(he:iQ P n all (fQ q) l (ky (lf x y u v g))=some (lf x y u v g,fR q):=by kernel_rfl)(hL:L=Lf x y u v g:=by rfl):T D n M X w0 l L λa w=>(Code.region id all.toArray false).wp P (Qs (Re F r (k+1) D n M X w0 lf Lf) ES R) a w:=
 xv _ q (λ_ _ H hS=>⟨k,Nat.lt_succ_self _,x,y,u,v,g,hm,H,by rw[←hL];exact hS⟩) he
end
section
variable {n:Nat} {M:Av} {X:List Nat} {w0:World} {l:SF} {L E:List aU} {ES:List (Nat×eN)} {P:Program} {all:List Oper} {id:Nat} {fn:Func} {N:eN}
theorem Iz(hr:fn.results=#[]:=by rfl):Rs P fn l L (.tuple ⟨[]⟩):=rs0 hr
theorem aR{t:Nat}{v:Value}(hr:fn.results=#[.tmp t]:=by rfl)(h:fE l t=some ([],v):=by kernel_rfl):Rs P fn l L v:=XI hr h
theorem dy{t s:Nat}{v u:Value}(hr:fn.results=#[.tmp t,.tmp s]:=by rfl)(h:fE l t=some ([],v):=by kernel_rfl)(h2:fE l s=some ([],u):=by kernel_rfl):Rs P fn l L (.tuple ⟨[v,u]⟩):=XJ hr h h2
theorem BP(k:Nat){t b:Nat}{Y:TypeId}{cs:List Value}{d:TypeDesc}(hu:P.underlying Y=some d)(hr:fn.results=#[.cell t Y]:=by rfl)(hk:L[k]?=some (.lm b cs):=by rfl)(h:fE l t=some ([],.pointer (some ⟨b,0,none⟩)):=by kernel_rfl)
  (hd:(match d with| .struct _| .array _ _=>true|_=>false)=true:=by rfl)(hz:(P.info? Y).map (·.size)=some cs.length:=by kernel_rfl):Rs P fn l L (.agg ⟨cs⟩):=rsa k hu hr h hk hd hz
theorem dY(k:Nat){t b s:Nat}{u:Value}{Y:TypeId}{cs:List Value}{d:TypeDesc}(hu:P.underlying Y=some d)(hr:fn.results=#[.cell t Y,.tmp s]:=by rfl)(hk:L[k]?=some (.lm b cs):=by rfl)(h:fE l t=some ([],.pointer (some ⟨b,0,none⟩)):=by kernel_rfl)(h2:fE l s=some ([],u):=by kernel_rfl)
  (hd:(match d with| .struct _| .array _ _=>true|_=>false)=true:=by rfl)(hz:(P.info? Y).map (·.size)=some cs.length:=by kernel_rfl):Rs P fn l L (.tuple ⟨[.agg ⟨cs⟩,u]⟩):=a44 k hu hr h h2 hk hd hz
theorem uZ{t:Nat}{v:Value}(ks:List Nat)(q:List (Pk (SH M X w0 L)))(hr:fn.results=#[.tmp t]:=by rfl)(he:iQ P n all (fQ q) l [t]=some ([(t,[],v)],fR q):=by kernel_rfl)(hE:ed L ks=E:=by rfl)(hk:jo L ks=true:=by rfl):
  T [] n M X w0 l L λa w=>(Code.seq (.region id all.toArray false) .ret).wp P (Qs N ES (Rp P fn (Pn v E M X w0))) a w:=BO _ q (ax (aI ks (XI hr (by simp[fE])) hE hk)) he
theorem uY{t s:Nat}{v u:Value}(ks:List Nat)(q:List (Pk (SH M X w0 L)))(hr:fn.results=#[.tmp t,.tmp s]:=by rfl)(he:iQ P n all (fQ q) l [t,s]=some ([(t,[],v),(s,[],u)],fR q):=by kernel_rfl)(rH:Nat.beq t s=false:=by rfl)(hE:ed L ks=E:=by rfl)(hk:jo L ks=true:=by rfl):
  T [] n M X w0 l L λa w=>(Code.seq (.region id all.toArray false) .ret).wp P (Qs N ES (Rp P fn (Pn (.tuple ⟨[v,u]⟩) E M X w0))) a w:=BO _ q (ax (aI ks (XJ hr (by simp[fE]) (by simp[fE,rH])) hE hk)) he
end
section
variable {P:Program} {D:List Deferred} {n:Nat} {M:Av} {l:SF} {ty:TypeId} {pos:String} {after:Array Edge}
theorem oS{t:TypeId}{x y:Operand}{b off:Nat}{v:Value}{cs:List Value}(EF:List Value)
  (hx:ev l [] x=some (.pointer (some ⟨b,off,none⟩)))(hy:ev l [] y=some v)(hz:(P.info? t).map (·.size)=some v.cells.toList.length:=by kernel_rfl)(h1:pg v.cells.toList=true:=by kernel_rfl)(hl:Nat.ble (off+v.cells.toList.length) cs.length=true:=by kernel_rfl)(hs:jE cs off v.cells.toList=EF:=by kernel_rfl):
  ∀a w,aD D n l a→S0 M [.lm b cs] w→br P ⟨none,.store t x y,ty,pos,after,none⟩ a w λ_ w'=>SH M (aH [.lm b cs]) w [.lm b EF] w':=λ_ _ H hS=>BB EF H hS hx hy hz h1 hl hs
theorem oA{d:Option Tmp}{E:TypeId}(cs:List Value)(hz:(P.info? E).map (·.zero)=some (some (.agg ⟨cs⟩)):=by kernel_rfl):
  ∀a w,aD D n l a→S0 M [] w→br P ⟨d,.alloc E,ty,pos,after,none⟩ a w λu w'=>∃b:Nat,u=.pointer (some ⟨b,0,none⟩)∧SH M (aH []) w [.lm b cs] w':=λ_ _ _ hS=>BA cs (z:=.agg ⟨cs⟩) hS hz rfl
theorem oB{d:Option Tmp}{E:TypeId}{x:Operand}{v:Value}(cs:List Value)(hx:ev l [] x=some v)(hc:v.cells.toList=cs:=by kernel_rfl):
  ∀a w,aD D n l a→S0 M [] w→br P ⟨d,.box E x,ty,pos,after,none⟩ a w λu w'=>∃b:Nat,u=.pointer (some ⟨b,0,none⟩)∧SH M (aH []) w [.lm b cs] w':=λ_ _ H hS=>a3q cs H hS hx hc
theorem oL{α:Type}(T:Ty α){d:Nat}{t:TypeId}(E:TypeId){len:Nat}(zv:Value){parts:Array (Nat×Operand)}{L:List aU}(xs:List α)(gs:List (Nat→Gh)){vs:List Value}(jU:∀{w},S0 M L w→aJ T (fK M L) w xs gs)(he:nY l [] (parts.toList.map (·.2))=some vs)
  (hu:P.underlying t=some (.slice E):=by kernel_rfl)(hz:(P.info? E).map (·.size)=some T.z:=by kernel_rfl)(qK:(P.info? E).map (·.zero)=some (some zv):=by kernel_rfl)(hlen:Nat.ble (len*T.z) 16777216=true:=by kernel_rfl)(o1:Nat.blt 0 (len*T.z)=true:=by kernel_rfl)
  (hf:Instr.fill (λi=>some (i*T.z,T.z)) ((Array.range (len*T.z)).map (zv.cells[· %zv.cells.size]!)) ((parts.toList.map (·.1)).zip vs)=some ⟨((dN xs (sL gs) 0).map (gj T)).flatten⟩:=by kernel_rfl)(pj:xs.length=len:=by kernel_rfl):
  ∀a w,aD D n l a→S0 M L w→br P ⟨some d,.buildSlice t len parts,ty,pos,after,none⟩ a w λv w'=>∃g:Gh,v=.slice g.a len g.c∧SH M (aH L) w [.own E T xs g] w':=λ_ _ H hS=>WR _ xs gs vs H hS he hu hz qK hlen o1 hf rfl pj (jU hS)
theorem oM{α:Type}(T:Ty α){d:Nat}{t:TypeId}(E:TypeId){len:Nat}(zv:Value){parts:Array (Nat×Operand)}{L:List aU}(xs:List α)(gs:List (Nat→Gh)){vs:List Value}{a:Act}{w:World}(H:aD D n l a)(hS:S0 M L w)(he:nY l [] (parts.toList.map (·.2))=some vs)(jU:aJ T (fK M L) w xs gs)
  (hu:P.underlying t=some (.slice E):=by kernel_rfl)(hz:(P.info? E).map (·.size)=some T.z:=by kernel_rfl)(qK:(P.info? E).map (·.zero)=some (some zv):=by kernel_rfl)(hlen:Nat.ble (len*T.z) 16777216=true:=by kernel_rfl)(o1:Nat.blt 0 (len*T.z)=true:=by kernel_rfl)
  (hf:Instr.fill (λi=>some (i*T.z,T.z)) ((Array.range (len*T.z)).map (zv.cells[· %zv.cells.size]!)) ((parts.toList.map (·.1)).zip vs)=some ⟨((dN xs (sL gs) 0).map (gj T)).flatten⟩:=by kernel_rfl)(pj:xs.length=len:=by kernel_rfl):
  br P ⟨some d,.buildSlice t len parts,ty,pos,after,none⟩ a w λv w'=>∃g:Gh,v=.slice g.a len g.c∧SH M (aH L) w [.own E T xs g] w':=WR _ xs gs vs H hS he hu hz qK hlen o1 hf rfl pj jU
theorem oP{α:Type}(T:Ty α){d:Nat}{s x:Operand}{t e e2:TypeId}(zv:Value)(g1 g2:Gh){n1 n2 c1 c2:Nat}{a1 a2:Option Addr}{l1 l2 q:List α}(hq:q=l1++l2)(hl:V.ln l1+V.ln l2≤137438953472)
  (hs:ev l [] s=some (.slice a1 n1 c1))(hx:ev l [] x=some (.slice a2 n2 c2))(xo:g1.a=a1:=by kernel_rfl)(qO:g1.c=c1:=by kernel_rfl)(Ik:g2.a=a2:=by kernel_rfl)(qG:l1.length=n1:=by kernel_rfl)(qH:l2.length=n2:=by kernel_rfl)
  (hu:P.underlying t=some (.slice e):=by kernel_rfl)(hi:(P.info? e).map (λi=>(i.size,Nat.ble i.bytes 1024,i.zero))=some (T.z,true,some zv):=by kernel_rfl)(rI:zv.cells.size=T.z:=by kernel_rfl)(hz:Nat.blt 0 T.z=true:=by kernel_rfl):
  ∀a w,aD D n l a→S0 M [.own e T l1 g1,.own e2 T l2 g2] w→br P ⟨some d,.call ⟨.builtin .append,#[s,x],#[t,t]⟩,ty,pos,after,none⟩ a w λv w'=>∃g:Gh,v=.slice g.a q.length g.c∧SH M (aH [.own e T l1 g1,.own e2 T l2 g2]) w [.own e T q g,.own e2 T l2 g2] w':=
 λ_ _ H hS=>BD q hq.symm H hS hs hx xo qO Ik qG qH hu hi rI hz hl
end
abbrev gT(b:Bool):Prop:=b=true∧True
abbrev gF(b:Bool):Prop:=b=false∧True
section
variable {D:List Deferred}
def o4:Nat→List (ag×Value)→List MapEntry
 |_,[]=>[]
 |i,x::r=>⟨.string ⟨⟨x.1⟩⟩,x.2,i⟩::o4 (i+1) r
def Mp(w:World)(b:Nat)(l:List (ag×Value)):Prop:=w.heap[b]?=some (.map ⟨o4 0 l⟩ l.length)
theorem Mp.lt{w:World}{b:Nat}{l:List (ag×Value)}(h:Mp w b l):b<w.heap.size:=by
 rcases Nat.lt_or_ge b w.heap.size with h1|h1
 ·exact h1
 ·unfold Mp at h;rw[Array.getElem?_eq_none h1]at h;cases h
theorem Mp.kp{w w':World}{b:Nat}{l:List (ag×Value)}{X:List Nat}(h:Mp w b l)(k:Kp X w w')(hX:b∉X):Mp w' b l:=(k.block b h.lt hX).trans h
def aU.tY(b:Nat)(l:List (ag×Value)):aU where
 fp:=[b]
 p:=λ_ w=>Mp w b l
 kp:=λh k _ hX=>h.kp k (hX b (by simp))
 cT:=λh _=>h
 fresh:=λh=>h
 lt:=λh=>by simpa using h.lt
theorem XO:∀(i:Nat)(l r:List (ag×Value)),o4 i (l++r)=o4 i l++o4 (i+l.length) r
 |i,[],r=>by simp[o4]
 |i,x::l,r=>by
  rw[List.cons_append,o4,XO (i+1) l r,o4,List.length_cons,show i+1+l.length=i+(l.length+1) by omega];rfl
def kx:List ag→ag→Nat
 |[],_=>0
 |x::r,s=>if s==x then 0 else kx r s+1
theorem Rf:∀(l:List ag)(s:ag),kx l s≤l.length
 |[],_=>by simp[kx]
 |x::r,s=>by
  unfold kx;split
  ·simp
  ·have:=Rf r s;simp;omega
def lG(l:List ag)(s:ag):Int:=(kx l s:Int)
theorem a4c(s t:ag):((⟨⟨s⟩⟩:ByteArray)==⟨⟨t⟩⟩)=(s==t):=by
 show((⟨s⟩:Array UInt8)==⟨t⟩)=(s==t);rw[Bool.eq_iff_iff,beq_iff_eq,beq_iff_eq];exact⟨λh=>by injection h,λh=>by rw[h]⟩
theorem Rh:∀(l:List (ag×Value))(s:ag)(i j:Nat),Instr.findNow .string (.string ⟨⟨s⟩⟩) (o4 j l) i=some ((l[kx (l.map (·.1)) s]?).map λx=>(i+kx (l.map (·.1)) s,x.2))
 |[],s,i,j=>rfl
 |x::r,s,i,j=>by
  have ih:=Rh r s (i+1) (j+1);rw[o4,Instr.findNow];show(match(some ((⟨⟨s⟩⟩:ByteArray)==⟨⟨x.1⟩⟩):Option Bool)with
   |some true=>some (some (i,x.2))
   |some false=>Instr.findNow .string (.string ⟨⟨s⟩⟩) (o4 (j+1) r) (i+1)
   |none=>none)=_
  rw[a4c,List.map_cons,kx];cases s==x.1 with
  |true=>simp
  |false=>
   simp only[ih,Bool.false_eq_true,if_false,List.getElem?_cons_succ];cases r[kx (r.map (·.1)) s]? with
   |none=>rfl
   |some y=>simp;omega
section
variable {P:Program} {a:Act} {w:World} {n:Nat} {l:SF} {M:Av}
theorem a4d{w:World}{b:Nat}(o:Obj):Kp [b] w {w with heap:=w.heap.setIfInBounds b o}:=
 ⟨rfl,rfl,rfl,by simp,λk hk hx=>by
  have:k≠b:=by simpa using hx
  simp[Ne.symm this]⟩
theorem XP{d:Option Tmp}{t:TypeId}{ty:TypeId}{pos:String}{after:Array Edge}(hS:S0 M [] w):
  br P ⟨d,.makeMap t none,ty,pos,after,none⟩ a w λu w'=>∃b:Nat,u=.map (some b)∧SH M (aH []) w [.tY b []] w':=by
 refine br.qL (v:=.map (some w.heap.size)) (w':=w.alloc (.map #[] 0)) ?_ ⟨w.heap.size,rfl,SH.step hS (Kp.vk ((Below.refl _ _).alloc (Nat.le_refl _) _) []) (by simp) (by simp[aH,aU.tY]) ?_⟩
 ·simp[execOp,run_makeMap_plain]
 ·intro e he;rw[List.mem_singleton]at he;subst he;show(w.heap.push (.map #[] 0))[w.heap.size]?=some (.map ⟨o4 0 []⟩ 0);simp[o4]
theorem tZ{t kt et:TypeId}{x y z:Operand}{ty:TypeId}{pos:String}{after:Array Edge}{b:Nat}{ls:List (ag×Value)}{k:ag}{v:Value}(H:aD D n l a)(hS:S0 M [.tY b ls] w)
  (hx:ev l [] x=some (.map (some b)))(hy:ev l [] y=some (.string ⟨⟨k⟩⟩))(hz:ev l [] z=some v)(hm:P.underlying t=some (.map kt et))(hk:P.underlying kt=some .string)(hn:kx (ls.map (·.1)) k=ls.length):
  br P ⟨none,.insert t x y z,ty,pos,after,none⟩ a w λ_ w'=>SH M (aH [.tY b ls]) w [.tY b (ls++[(k,v)])] w':=by
 have hb:Mp w b ls:=SH.at hS 0 rfl;have hf:Instr.findNow .string (.string ⟨⟨k⟩⟩) (o4 0 ls) 0=some none:=by
  rw[Rh,hn,List.getElem?_eq_none (by omega)];rfl
 have hc:(Instr.checkKey false 10000 kt (.string ⟨⟨k⟩⟩)).run P w=.ok () w:=MapKept.run_checkKey (k:=.string ⟨⟨k⟩⟩) hk (by simp[MapKept.IsKey]) false 9999;refine br.skip (w':={w with heap:=w.heap.setIfInBounds b (.map ⟨o4 0 (ls++[(k,v)])⟩ (ls.length+1))}) ?_ rfl λ_=>SH.step hS ((a4d _).wide (by simp[aH,aU.tY])) (by simp) (by simp[aH,aU.tY]) ?_
 ·have he:(⟨o4 0 ls⟩:Array MapEntry).push ⟨.string ⟨⟨k⟩⟩,v,ls.length⟩=⟨o4 0 (ls++[(k,v)])⟩:=by
   rw[XO];simp[o4]
  simp[execOp,H.ev (fP a) hx,H.ev (fP a) hy,H.ev (fP a) hz,Instr.mapUpdate,run_underlying hm,MapKept.run_getObj_map hb,hc,MapKept.run_findKey hk hf,MapKept.run_setObj_map _ hb,Result.andThen,he]
 ·intro e he;rw[List.mem_singleton]at he;subst he;show(w.heap.setIfInBounds b _)[b]?=_;rw[Array.getElem?_setIfInBounds];simp[hb.lt]
theorem a4e{t kt et:TypeId}{b:Nat}{ls:List (ag×Value)}{k:ag}{z:Value}(F:Int→Value)(hb:Mp w b ls)(hm:P.underlying t=some (.map kt et))(hk:P.underlying kt=some .string)(hz:(P.info? et).map (·.zero)=some (some z))
  (hF:ls.map (·.2)++[z]=(List.range (ls.length+1)).map λ(i:Nat)=>F (i:Int))(c:Bool):
  (Instr.lookup t (.map (some b)) (.string ⟨⟨k⟩⟩) c).run P w=.ok (if c then .tuple #[F (lG (ls.map (·.1)) k),.bool (decide (lG (ls.map (·.1)) k<(ls.length:Int)))]else F (lG (ls.map (·.1)) k)) w:=by
 have yT:(zeroValue et).run P w=.ok z w:=by
  cases hi:P.info? et with
  |none=>simp[hi]at hz
  |some inf=>
   simp[hi]at hz;simp[zeroValue,typeInfo,hi,hz]
 have hc:∀e,(Instr.checkKey e 10000 kt (.string ⟨⟨k⟩⟩)).run P w=.ok () w:=λe=>MapKept.run_checkKey (k:=.string ⟨⟨k⟩⟩) hk (by simp[MapKept.IsKey]) e 9999;have hle:=Rf (ls.map (·.1)) k;rw[List.length_map]at hle;have hg:(ls.map (·.2)++[z])[kx (ls.map (·.1)) k]?=some (F (lG (ls.map (·.1)) k)):=by
  rw[hF,List.getElem?_map,List.getElem?_range (by omega)];rfl
 have hf:=Rh ls k 0 0;rcases Nat.lt_or_ge (kx (ls.map (·.1)) k) ls.length with h|h
 ·rw[List.getElem?_append_left (by simpa using h),List.getElem?_map,List.getElem?_eq_getElem h]at hg;have hg:=Option.some.inj hg;rw[List.getElem?_eq_getElem h]at hf;have hd:decide (lG (ls.map (·.1)) k<(ls.length:Int))=true:=decide_eq_true (by unfold lG;omega);rw[hd,←hg];simp[Instr.lookup,run_underlying hm,MapKept.run_getObj_map hb,hc,MapKept.run_findKey hk hf,Result.andThen]
 ·have he:kx (ls.map (·.1)) k=ls.length:=by omega
  rw[he,List.getElem?_append_right (by simp),List.length_map,Nat.sub_self]at hg;have hg:z=F (lG (ls.map (·.1)) k):=Option.some.inj hg;rw[List.getElem?_eq_none (by omega)]at hf;have hd:decide (lG (ls.map (·.1)) k<(ls.length:Int))=false:=decide_eq_false (by unfold lG;omega);rw[hd,←hg];simp[Instr.lookup,run_underlying hm,MapKept.run_getObj_map hb,hc,MapKept.run_findKey hk hf,yT,Result.andThen]
theorem XQ{d:Option Tmp}{t kt et:TypeId}{x y:Operand}{c:Bool}{ty:TypeId}{pos:String}{after:Array Edge}{b:Nat}{ls:List (ag×Value)}{k:ag}{z:Value}{ix:Int}(F:Int→Value)(u:Value)(H:aD D n l a)(hS:S0 M [.tY b ls] w)(QD:ix=lG (ls.map (·.1)) k)
  (hu:(if c then .tuple #[F ix,.bool (decide (ix<(ls.length:Int)))]else F ix)=u)
  (hx:ev l [] x=some (.map (some b)))(hy:ev l [] y=some (.string ⟨⟨k⟩⟩))(hm:P.underlying t=some (.map kt et))(hk:P.underlying kt=some .string)(hz:(P.info? et).map (·.zero)=some (some z))
  (hF:ls.map (·.2)++[z]=(List.range (ls.length+1)).map λ(i:Nat)=>F (i:Int)):
  br P ⟨d,.lookup t x y c,ty,pos,after,none⟩ a w λv w'=>v=u∧SH M (aH [.tY b ls]) w [.tY b ls] w':=by
 have hb:Mp w b ls:=SH.at hS 0 rfl;subst QD hu;refine br.qL (w':=w) ?_ ⟨rfl,SH.step hS (Kp.refl _ _) (by simp) (by simp[aH,aU.tY]) λe he=>?_⟩
 ·simp[execOp,H.ev (fP a) hx,H.ev (fP a) hy,a4e F hb hm hk hz hF c]
 ·rw[List.mem_singleton]at he;subst he;exact hb
end
end
end Go.V
namespace Go.V
open Go
theorem o5{x:Int}(h:-9223372036854775808≤x)(h':x<9223372036854775808):a8 x=x:=by
 show IntKind.i64.wrap x=x;unfold IntKind.wrap;simp only[IntKind.bits,IntKind.signed,Bool.true_and];split<;>rename_i hh<;>simp only[ge_iff_le,decide_eq_true_eq]at hh<;>omega
theorem fh{α:Type}[Inhabited α](l:List α)(i:Nat)(h:i<l.length):gi l (i:Int)=l[i]:=by
 simp[gi,List.getD_eq_getElem?_getD,List.getElem?_eq_getElem h]
theorem Ri(s:ag)(i:Nat)(h:i<s.length):bg s (i:Int)=(s[i].toNat:Int):=by
 simp[bg,List.getD_eq_getElem?_getD,List.getElem?_eq_getElem h]
theorem Rj(l:List Int)(i:Nat)(v:Int):o3 l (i:Int) v=l.set i v:=by simp[o3]
theorem a4f(x:Int):dZ x=x%18446744073709551616:=by
 show IntKind.u64.wrap x=_;simp[IntKind.wrap,IntKind.bits,IntKind.signed]
theorem Rk{x:Int}(h:0≤x)(h':x<18446744073709551616):dZ x=x:=by rw[a4f];exact Int.emod_eq_of_lt h h'
theorem N1(x:Int):bA x=x%256:=by
 show IntKind.u8.wrap x=_;simp[IntKind.wrap,IntKind.bits,IntKind.signed]
theorem XR{x:Int}(h:0≤x)(h':x<256):bA x=x:=by rw[N1];exact Int.emod_eq_of_lt h h'
theorem ct{α:Type}{l:List α}{i:Nat}(h:i<l.length):decide ((i:Int)<ln l)=true:=by simp[ln,h]
theorem cq{α:Type}{l:List α}{i:Nat}(h:l.length≤i):decide ((i:Int)<ln l)=false:=by simp[ln];omega
theorem bR{α β:Type}{l:List α}{i:Nat}{k:Option β}(h:i<l.length):au (0≤(i:Int)∧(i:Int)<ln l) k=k:=by
 unfold au;rw[if_pos ⟨by omega,by unfold ln;omega⟩]
theorem bz{β:Type}{p:Prop}[Decidable p]{k:Option β}(h:p):au p k=k:=by unfold au;rw[if_pos h]
theorem bG{i:Nat}(h:i<4611686018427387904):a8 ((i:Int)+1)=((i+1:Nat):Int):=by rw[o5 (by omega) (by omega)];rfl
theorem lt_eq{α β:Type}(e:α)(f:α→β):lt e f=f e:=rfl
theorem aF{α β:Type}(a:α)(f:α→Option β):Option.bind (some a) f=f a:=rfl
theorem aG{α:Sort _}(a b:α):cond false a b=b:=rfl
theorem aB{α:Sort _}(a b:α):cond true a b=a:=rfl
theorem bM{α:Type}[BEq α][LawfulBEq α]{a b:α}:(a==b)=false↔a≠b:=beq_eq_false_iff_ne
theorem cv{p:Prop}[Decidable p](h:¬p):decide p=false:=decide_eq_false h
theorem cB{p:Prop}[Decidable p](h:p):decide p=true:=decide_eq_true h
theorem cN{α:Type}{a:α}{l:List α}:(a::l).length=l.length+1:=rfl
theorem ee{α:Type}{a b:List α}:(a++b).length=a.length+b.length:=List.length_append
theorem dn{α:Type}:([]:List α).length=0:=rfl
theorem fv{α:Type}{i:Nat}{l:List α}(h:i<l.length):l.drop i=l[i]::l.drop (i+1):=List.drop_eq_getElem_cons h
theorem gR{α:Type}{l:List α}{i:Nat}(h:l.length≤i):l.drop i=[]:=List.drop_eq_nil_of_le h
theorem du{α:Type}{l:List α}:l.drop 0=l:=rfl
theorem dz(n:Nat):n≤n:=Nat.le_refl n
theorem fL:(!true)=false:=rfl
theorem gS:(!false)=true:=rfl
theorem fT(n:Nat):0≤n:=Nat.zero_le n
theorem jH{p:Prop}[Decidable p](h:decide p=true):p:=of_decide_eq_true h
theorem mG{α:Type}(a b c:List α):a++b++c=a++(b++c):=List.append_assoc a b c
theorem u4{α:Type}{l:List α}(h:l.length=0):l=[]:=List.eq_nil_of_length_eq_zero h
theorem kR(b:Bool):(true&&b)=b:=rfl
theorem oF(b:Bool):(b&&true)=b:=Bool.and_true b
theorem o7(b:Bool):(false||b)=b:=rfl
theorem sJ:∀{x y:Bool},(x||y)=false↔x=false∧y=false:=Bool.or_eq_false_iff
end Go.V
