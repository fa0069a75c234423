/-
 'append' onto a slice that is read and has no room: a new row. A thing of the call's own that is lent. Nothing here is a statement of this claim.
-/
import Derived.Test.YtfinnnfdojhmnaaGreatDoorQ1
import Derived.ArgAppend
import Derived.Laws.IdiomCopy
import Derived.DataReads
import Derived.ChangeOld
import Derived.ChangeArms
import Derived.Lib.LaidU8
import Derived.StillTail
import Derived.WideMake
import Derived.MapKept
import Derived.Lib.AppendZeros
import Derived.Test.YtfinnnfdojhmnaaGreatDoorRows
import Derived.Test.YtfinnnfdojhmnaaGreatDoorSh
import Derived.Lib.Mul64
set_option linter.unusedVariables false
set_option maxRecDepth 20000
set_option maxHeartbeats 4000000
namespace Go.V
open Go Go.RowKit
section
variable {P:Program} {a:Act} {w:World} {n:Nat} {l:SF} {M:Av} {D:List Deferred}
end
section
variable {M:Av} {X:List Nat} {w0 w w':World} {L R:List a8}
theorem SH.a5u{α:Type}{E:TypeId}{T:Ty α}{l:List α}{g:Gh}(h:SH M X w0 (.own E T l g::L) w):S0 (dR M L) [.im T l g] w:=by
 have h2:=h.fK;have hf:∀b,b∉ay [a8.im T l g]:=λb hb=>by simp[ay,a8.im]at hb
 refine⟨Kp.refl _ _,by simp,λb hb=>absurd hb (hf b),λb hb=>absurd hb (hf b),λb hm=>?_,λe he=>?_⟩
 ·rcases hm with hm|hm
  ·exact Nat.lt_of_lt_of_le (h.mx b hm) h.kp.size
  ·obtain⟨e,he,hb⟩:=jy.1 hm;exact e.lt (h.ps e (List.mem_cons_of_mem _ he)) b hb
 ·rw[List.mem_singleton]at he;subst he;refine(a8.im T l g).bS (h2.ps _ List.mem_cons_self) λb hb=>?_;rcases hb with(hb|hb)|hb
  ·exact .inl hb
  ·exact .inr (by simp only[ay,List.mem_append];exact .inr hb)
  ·exact absurd hb (hf b)
theorem SH.a5v{α:Type}{E:TypeId}{T:Ty α}{l:List α}{g:Gh}(h:SH M X w0 (.own E T l g::L) w)(h2:SH (dR M L) (ay [.im T l g]) w R w')(hR:∀e∈R,∀M M' w,e.p M w→e.p M' w):SH M X w0 (R++.own E T l g::L) w':=by
 have hx:ay [a8.im T l g]=[]:=rfl;have hk:Kp [] w w':=hx▸h2.kp;have dJ:∀{b:Nat},b∈ay (a8.own E T l g::L)→b<w.heap.size:=λhb=>by
  obtain⟨e,he,hb⟩:=jy.1 hb;exact e.lt (h.ps e he) _ hb
 have uu:∀{b:Nat},b∈ay R→w.heap.size≤b:=λhb=>by
  rcases h2.lo _ hb with h1|h1
  ·exact h1
  ·rw[hx]at h1;cases h1
 have j5:∀{b:Nat},b∈ay (R++.own E T l g::L)→b∈ay R∨b∈ay (a8.own E T l g::L):=λhb=>by
  obtain⟨e,he,hb⟩:=jy.1 hb;rcases List.mem_append.1 he with he|he
  ·exact .inl (jy.2 ⟨e,he,hb⟩)
  ·exact .inr (jy.2 ⟨e,he,hb⟩)
 refine⟨h.kp.trans hk (λy hy=>by cases hy),?_,λb hb=>?_,λb hb=>?_,h.mx,λe he=>?_⟩
 ·rw[List.pairwise_append];refine⟨h2.nd,h.nd,λe he f hf y hy yW=>?_⟩;have h3:=uu (jy.2 ⟨e,he,hy⟩);have h4:=dJ (jy.2 ⟨f,hf,yW⟩);omega
 ·rcases j5 hb with hb|hb
  ·exact .inl (Nat.le_trans h.kp.size (uu hb))
  ·exact h.lo b hb
 ·rcases j5 hb with hb|hb
  ·exact λhm=>h2.nm b hb (.inl hm)
  ·exact h.nm b hb
 ·rcases List.mem_append.1 he with he|he
  ·exact hR e he _ _ _ (h2.ps e he)
  ·have hp:=e.fresh (h.ps e he);refine e.bS (e.kp hp hk (λb hb=>by cases hb) (λb hb yV=>by cases yV)) λb hb=>?_;rcases hb with hb|hb
   ·exact .inl (.inl hb)
   ·rcases j5 hb with hb|hb
    ·exact .inr (uu hb)
    ·exact .inl (.inr hb)
theorem a5w{α:Type}{E:TypeId}{T:Ty α}(hT:∀M M' w x g,T.bK M w x g→T.bK M' w x g)(l:List α)(g:Gh):∀M M' w,(a8.own E T l g).p M w→(a8.own E T l g).p M' w:=λ_ _ _ h=>⟨h.ow,λi hi=>hT _ _ _ _ _ (h.bK i hi)⟩
theorem a5x{e:a8}(h:∀M M' w,e.p M w→e.p M' w):∀e'∈[e],∀M M' w,e'.p M w→e'.p M' w:=λe' he=>by
 rw[List.mem_singleton]at he;subst he;exact h
end
section
variable {P:Program} {a:Act} {w:World} {n:Nat} {l:SF} {M:Av} {D:List Deferred}
end
section
variable {P:Program} {a:Act} {w:World} {n:Nat} {l:SF} {M:Av} {D:List Deferred}
theorem a5y{α:Type}{T:Ty α}{d:Nat}{t E ty:TypeId}{x lo hi mx:Operand}{pos:String}{after:Array Edge}{g:Gh}{q:List α}{n0 c0:Nat}{a0:Option Addr}{L:List a8}{k k2 k3:IntKind}(i j:Int)(H:aw D n l a)(hS:S0 M L w)(hs:aP T (dR M L) w q g)
  (hx:ev l [] x=some (.slice a0 n0 c0))(ha:g.a=a0)(hc:g.c=c0)(hn:q.length=n0)(uu:ev l [] lo=some (.int k3 i))(D2:ev l [] hi=some (.int k j))(hmx:ev l [] mx=some (.int k2 j))
  (hu:P.underlying t=some (.slice E))(hz:(P.info? E).map (·.size)=some T.z)(dL:0≤i∧i≤j∧j≤ln q):
  bh P ⟨some d,.slice t x (some lo) (some hi) (some mx),ty,pos,after,none⟩ a w λv w'=>∃g':Gh,v=.slice g'.a (fE q i j).length (fE q i j).length∧SH M (ay L) w (.im T (fE q i j) (.mk g'.a (fE q i j).length g'.s)::L) w':=by
 subst ha hc hn;have hlen:(fE q i j).length=j.toNat-i.toNat:=xK q dL;have kQ:(sizeOf E).run P w=.ok T.z w:=nz hz;have YY:=hs.1.cp;have hj:j.toNat≤g.c:=by unfold ln at dL;omega
 have yS:aP T (dR M L) w (fE q i j) (.mk (if j.toNat-i.toNat=0 then g.a else g.a.map (·.add (i.toNat*T.z))) (j.toNat-i.toNat) (λk=>g.s (i.toNat+k))):=by
  rcases Nat.eq_zero_or_pos (fE q i j).length with h0|h0
  ·have:=List.eq_nil_of_length_eq_zero h0;rw[this];exact aP.nil
  ·rw[hlen]at h0;have h1:=hs.sub dL;rw[if_neg (show¬g.c=i.toNat by omega)]at h1;rw[if_neg (show¬j.toNat-i.toNat=0 by omega)];exact⟨⟨h1.1.ok,h1.1.lt,h1.1.av,h1.1.get,by rw[hlen];exact Nat.le_refl _⟩,h1.2⟩
 refine bh.oz (v:=.slice (if j.toNat-i.toNat=0 then g.a else g.a.map (·.add (i.toNat*T.z))) (j.toNat-i.toNat) (j.toNat-i.toNat)) (w':=w) ?_ ⟨.mk (if j.toNat-i.toNat=0 then g.a else g.a.map (·.add (i.toNat*T.z))) (j.toNat-i.toNat) (λk=>g.s (i.toNat+k)),?_,?_⟩
 ·have hb:(Instr.sliceBounds true q.length g.c (some (.int k3 i)) (some (.int k j)) (some (.int k2 j))).run P w=.ok (i.toNat,j.toNat,j.toNat) w:=by
   have q1:j≤(g.c:Int):=by omega
   have q2:0≤j:=by omega
   have q3:j≤max j 0:=by omega
   have q4:i≤max j 0:=by omega
   have q5:=dL.1;simp[Instr.sliceBounds,Instr.sliceBound,asIntOf,q1,q2,q3,q4,q5]
  have R1:(if j.toNat=i.toNat then g.a else g.a.map (·.add (i.toNat*T.z)))=(if j.toNat-i.toNat=0 then g.a else g.a.map (·.add (i.toNat*T.z))):=by
   by_cases he:j.toNat=i.toNat
   ·rw[if_pos he,if_pos (by omega)]
   ·rw[if_neg he,if_neg (by omega)]
  rw[←R1];simp only[execOp,H.ev (eT a) hx,Instr.sliceAt,Sem.run_bind,run_underlying hu,Result.andThen_ok,Option.map_some,H.ev (eT a) uu,H.ev (eT a) D2,H.ev (eT a) hmx,Instr.slice,hb,kQ,Sem.run_pure]
 ·rw[hlen];rfl
 ·rw[hlen];exact hS.fl yS
end
theorem aP.nl{α:Type}{T:Ty α}{M:Av}{w:World}{l:List α}{g:Gh}(h:aP T M w l g)(hn:g.a=none):l=[]:=by
 cases l with
 |nil=>rfl
 |cons x r=>
  have:=h.1.ok (by simp);unfold dW at this;rw[hn]at this;cases this
section
variable {D:List Deferred}
def wq(a:Option Addr)(c i z:Nat):Option Addr:=if c=i then a else a.map (·.add (i*z))
theorem add_zero'(x:Addr):x.add 0=x:=by unfold Addr.add;split<;>simp_all
theorem a5z(a:Option Addr)(c z:Nat):a=wq a c 0 z:=by
 unfold wq;split
 ·rfl
 ·cases a with
  |none=>rfl
  |some x=>simp[add_zero']
section
variable {P:Program} {a:Act} {w:World} {n:Nat} {l:SF} {M:Av}
theorem Zb{α:Type}{T:Ty α}{d:Nat}{t E ty e:TypeId}{x:Operand}{lo hi:Option Operand}{pos:String}{after:Array Edge}{g:Gh}{q:List α}{n0 c0:Nat}{a0:Option Addr}(i j:Int)(lo' lg:Option Value)(H:aw D n l a)(hS:S0 M [.own e T q g] w)
  (hx:ev l [] x=some (.slice a0 n0 c0))(ha:g.a=a0)(hc:g.c=c0)(hn:q.length=n0)(uu:pJ l [] lo=some lo')(D2:pJ l [] hi=some lg)
  (h1:(lo'=none∧i=0)∨∃k,lo'=some (.int k i))(h2:(lg=none∧j=ln q)∨∃k,lg=some (.int k j))
  (hu:P.underlying t=some (.slice E))(hz:(P.info? E).map (·.size)=some T.z)(dL:0≤i∧i≤j∧j≤ln q):
  bh P ⟨some d,.slice t x lo hi none,ty,pos,after,none⟩ a w λv w'=>v=.slice (wq g.a g.c i.toNat T.z) (j.toNat-i.toNat) (g.c-i.toNat)∧SH M (ay [.own e T q g]) w [.own e T q g] w':=by
 subst ha hc hn;have IW:∀(y:Option Operand) v,pJ l [] y=some v→y.map a.eval=v:=by
  intro y v hy;cases y with
  |none=>simp only[pJ,Option.some.injEq]at hy;subst hy;rfl
  |some z=>
   simp only[pJ]at hy;split at hy
   ·rename_i u hu;simp only[Option.some.injEq]at hy;subst hy;simp[H.ev (eT a) hu]
   ·cases hy
 have YY:=(hS.ow 0 rfl).cp;have kQ:(sizeOf E).run P w=.ok T.z w:=nz hz;refine bh.oz (v:=.slice (wq g.a g.c i.toNat T.z) (j.toNat-i.toNat) (g.c-i.toNat)) (w':=w) ?_ ⟨rfl,hS⟩;have hb:(Instr.sliceBounds true q.length g.c lo' lg none).run P w=.ok (i.toNat,j.toNat,g.c) w:=by
  have hj:j.toNat≤q.length:=by unfold ln at dL;omega
  have q1:i.toNat≤j.toNat:=by omega
  have q2:j.toNat≤g.c:=by omega
  have q0:=dL.1;have q5:(j:Int)≤(g.c:Int):=by omega
  have q6:0≤j:=by omega
  have q7:=dL.2.1;rcases h2 with⟨rfl,rfl⟩|⟨k',rfl⟩<;>rcases h1 with⟨rfl,rfl⟩|⟨k,rfl⟩
  ·simp[Instr.sliceBounds,ln]
  ·have:i≤(q.length:Int):=dL.2.1;simp[Instr.sliceBounds,Instr.sliceBound,asIntOf,dL.1,this,ln]
  ·simp[Instr.sliceBounds,Instr.sliceBound,asIntOf,q5,q6]
  ·have q8:i≤max j 0:=by omega
   simp[Instr.sliceBounds,Instr.sliceBound,asIntOf,q5,q6,q0,q8]
 simp only[execOp,H.ev (eT a) hx,Instr.sliceAt,Sem.run_bind,run_underlying hu,Result.andThen_ok,IW _ _ uu,IW _ _ D2,Option.map_none,Instr.slice,hb,kQ,Sem.run_pure];rfl
end
def B3{α:Type}:List α→Nat→List α→List α
 |q,_,[]=>q
 |q,i,x::r=>B3 (q.set i x) (i+1) r
def FK(s:Nat→Nat→Gh)(i:Nat):Nat→(Nat→Nat→Gh)→Nat→Nat→Gh
 |0,_=>s
 |k+1,gs=>FK (λj=>if j=i then gs 0 else s j) (i+1) k (λj=>gs (j+1))
def B4{α:Type}(q:List α)(i:Int)(xs:List α):Int:=(Nat.min xs.length (q.length-i.toNat):Nat)
def qz{α:Type}(q:List α)(i:Int)(xs:List α):List α:=B3 q i.toNat (xs.take (Nat.min xs.length (q.length-i.toNat)))
theorem Zc{α:Type}:∀(xs q:List α)(i:Nat),(B3 q i xs).length=q.length
 |[],_,_=>rfl
 |x::r,q,i=>by rw[B3,Zc r];simp
theorem B5{α:Type}(q:List α)(i:Int)(xs:List α):(qz q i xs).length=q.length:=Zc _ _ _
theorem Zd{α:Type}{R:α→(Nat→Gh)→Prop}:∀(xs q:List α)(i:Nat)(s gs:Nat→Nat→Gh),i+xs.length≤q.length→(∀k (h:k<q.length),R q[k] (s k))→(∀k (h:k<xs.length),R xs[k] (gs k))→
  ∀k (h:k<(B3 q i xs).length),R (B3 q i xs)[k] (FK s i xs.length gs k)
 |[],q,i,s,gs,_,h1,_,k,h=>h1 k h
 |x::r,q,i,s,gs,hl,h1,h2,k,h=>by
  simp only[List.length_cons]at hl;refine Zd r (q.set i x) (i+1) (λj=>if j=i then gs 0 else s j) (λj=>gs (j+1)) (by simp;omega) (λk' h'=>?_) (λk' h'=>?_) k h
  ·by_cases e:k'=i
   ·subst e;simp only[List.getElem_set_self,if_true];exact h2 0 (by simp)
   ·have h3:k'<q.length:=by simpa using h'
    rw[List.getElem_set_ne (λhe=>e he.symm),if_neg e];exact h1 k' h3
  ·exact h2 (k'+1) (by simpa using h')
theorem MQ{α:Type}(T:Ty α)(x:α)(r:List α)(gs:Nat→Nat→Gh):((dd (x::r) gs 0).map (fJ T)).flatten=T.enc x (gs 0)++((dd r (λj=>gs (j+1)) 0).map (fJ T)).flatten:=by
 simp only[dd,List.map_cons,List.flatten_cons];rw[Rm r gs (λj=>gs (j+1)) (0+1) 0 (λq=>by simp[Nat.add_comm])];rfl
theorem Ze{α:Type}{T:Ty α}(hz:T.z=1):∀(xs q:List α)(i:Nat)(s gs:Nat→Nat→Gh),i+xs.length≤q.length→
  kg ((dd q s 0).map (fJ T)).flatten i ((dd xs gs 0).map (fJ T)).flatten=((dd (B3 q i xs) (FK s i xs.length gs) 0).map (fJ T)).flatten
 |[],q,i,s,gs,_=>rfl
 |x::r,q,i,s,gs,hl=>by
  simp only[List.length_cons]at hl;have he:∃v,T.enc x (gs 0)=[v]:=by
   have:=T.len x (gs 0);rw[hz]at this;exact List.length_eq_one_iff.1 this
  obtain⟨v,hv⟩:=he;have hi:i<q.length:=by omega
  have h1:=Z7 (T:=T) (l:=q) (s:=s) (x:=x) (gx:=gs 0) (i:=i) (off:=0) (z:=1) (vs:=[v]) (λx g=>by rw[T.len,hz]) hi (by
   have h2:∃u,T.enc q[i] (s i)=[u]:=by
    have:=T.len q[i] (s i);rw[hz]at this;exact List.length_eq_one_iff.1 this
   obtain⟨u,hu⟩:=h2;rw[hu,hv];rfl) (by simp)
  rw[Nat.mul_one,Nat.add_zero]at h1;have h3:=Ze hz r (q.set i x) (i+1) (λj=>if j=i then gs 0 else s j) (λj=>gs (j+1)) (by simp;omega);rw[MQ,hv];show kg (((dd q s 0).map (fJ T)).flatten.set i v) (i+1) _=_;have h4:((dd q s 0).map (fJ T)).flatten.set i v=((dd (q.set i x) (λk=>if k=i then gs 0 else s k) 0).map (fJ T)).flatten:=h1;rw[h4];exact h3
theorem Zf{α:Type}{T:Ty α}(hz:T.z=1):∀(xs:List α)(gs:Nat→Nat→Gh)(j:Nat)(h:j<xs.length),(T.enc xs[j] (gs j))[0]?=((dd xs gs 0).map (fJ T)).flatten[j]?
 |x::r,gs,0,h=>by
  rw[MQ,List.getElem?_append_left (by rw[T.len,hz];decide)];rfl
 |x::r,gs,j+1,h=>by
  rw[MQ,List.getElem?_append_right (by rw[T.len,hz];omega),T.len,hz,Nat.add_sub_cancel];exact Zf hz r (λj=>gs (j+1)) j (by simpa using h)
theorem Zg{α:Type}{T:Ty α}:∀(xs:List α)(gs:Nat→Nat→Gh),qu ((dd xs gs 0).map (fJ T)).flatten=true
 |[],_=>rfl
 |x::r,gs=>by
  rw[MQ];have h1:=T.one x (gs 0);have h2:=Zg (T:=T) r (λj=>gs (j+1));generalize T.enc x (gs 0)=u at*
  induction u with
  |nil=>exact h2
  |cons v t ih=>
   simp only[qu,Bool.and_eq_true,List.cons_append]at h1⊢;exact⟨h1.1,ih h1.2⟩
theorem a5A{α:Type}{e:TypeId}{T:Ty α}{M:Av}{w:World}{q:List α}{g:Gh}(ho:kq e T M w q g){i j:Int}(dL:0≤i∧i≤j∧j≤ln q):∀k (h:k<(fE q i j).length),T.bK M w (fE q i j)[k] (g.s (i.toNat+k)):=λk h=>by
 have h1:i.toNat+k<q.length:=by
  rw[xK q dL]at h;unfold ln at dL;omega
 have h2:(fE q i j)[k]=q[i.toNat+k]:=by simp[fE]
 rw[h2];exact ho.bK _ h1
section
variable {P:Program} {a:Act} {w:World} {n:Nat} {l:SF} {M:Av}
theorem Zh{α:Type}{T:Ty α}{d:Nat}{tx RD E ty e:TypeId}{x y:Operand}{pos:String}{after:Array Edge}{g gx:Gh}{q xs:List α}{L:List a8}{n0 c0 m0 c1:Nat}{a0 a1:Option Addr}(i:Int)(H:aw D n l a)(hS:S0 M (.own e T q g::L) w)
  (hs:aP T F0 w xs gx)(j5:∀k (h:k<xs.length),T.bK (dR M (.own e T q g::L)) w xs[k] (gx.s k))
  (hx:ev l [] x=some (.slice a0 n0 c0))(ha:a0=wq g.a g.c i.toNat T.z)(hn:q.length-i.toNat=n0)
  (hy:ev l [] y=some (.slice a1 m0 c1))(uy:gx.a=a1)(hm:xs.length=m0)
  (hu:P.underlying tx=some (.slice E))(hz:(P.info? E).map (·.size)=some 1)(sr:T.z=1)(hi:0≤i∧i≤ln q)(_hL:ay L=[]):
  bh P ⟨some d,.call ⟨.builtin .copy,#[x,y],#[tx,RD]⟩,ty,pos,after,none⟩ a w λv w'=>v=.int .i64 (B4 q i xs)∧∃s:Nat→Nat→Gh,SH M (ay (.own e T q g::L)) w [.own e T (qz q i xs) (.mk g.a g.c s)] w':=by
 subst ha hn uy hm;have ho:=hS.ow 0 rfl;have hm0:Nat.min xs.length (q.length-i.toNat)≤xs.length:=Nat.min_le_left _ _;have hm1:Nat.min xs.length (q.length-i.toNat)≤q.length-i.toNat:=Nat.min_le_right _ _;have Zi:i.toNat≤q.length:=by unfold ln at hi;omega
 have fin:∀(s:Nat→Nat→Gh)(w':World),Kp (ay (.own e T q g::L)) w w'→Ow e (fJ T) T.z w' g.a g.c (dd (qz q i xs) s 0)→
   (∀k (h:k<(qz q i xs).length),T.bK (dR M (.own e T q g::L)) w (qz q i xs)[k] (s k))→SH M (ay (.own e T q g::L)) w [.own e T (qz q i xs) (.mk g.a g.c s)] w':=λs w' hk how MR=>by
  have lo:∀y∈ay [a8.own e T (qz q i xs) (.mk g.a g.c s)],w.heap.size≤y∨y∈ay (.own e T q g::L):=λy hy=>.inr (by
   simp only[ay,List.append_nil]at hy;simp only[ay,List.mem_append];exact .inl hy)
  refine SH.step hS hk (by simp) lo ?_;intro f hf;rw[List.mem_singleton]at hf;subst hf;exact⟨how,λk yY=>T.step hS hk lo (MR k yY)⟩
 generalize yQ:Nat.min xs.length (q.length-i.toNat)=m at*;have pj:(xs.take m).length=m:=by rw[List.length_take];omega
 have MR:∀k (h:k<(qz q i xs).length),T.bK (dR M (.own e T q g::L)) w (qz q i xs)[k] (FK g.s i.toNat m gx.s k):=by
  unfold qz;rw[yQ];have:=Zd (R:=λx g'=>T.bK (dR M (.own e T q g::L)) w x g') (xs.take m) q i.toNat g.s gx.s (by rw[pj];omega) ho.bK (λk h=>by
   rw[List.getElem_take];exact j5 k (by rw[pj]at h;omega))
  rw[pj]at this;exact this
 rcases Nat.eq_zero_or_pos m with h0|h0
 ·
  have hr:=run_copy_none (P:=P) w tx RD ty E (wq g.a g.c i.toNat T.z) gx.a (q.length-i.toNat) c0 xs.length c1 hu hz (yQ.trans h0);have hq:qz q i xs=q:=by unfold qz;rw[yQ,h0];rfl
  have AU:FK g.s i.toNat m gx.s=g.s:=by rw[h0];rfl
  refine bh.oz (v:=.int .i64 (B4 q i xs)) (w':=w) ?_ ⟨rfl,g.s,fin _ _ (Kp.refl _ _) (by rw[hq];exact ho.ow) (by rw[←AU];exact MR)⟩;unfold B4;rw[yQ,h0];simp only[execOp,resolve,Sem.run_bind,Sem.run_pure,Result.andThen_ok,invoke,builtin,List.map_toArray,List.map_cons,List.map_nil,H.ev (eT a) hx,H.ev (eT a) hy,hr];rfl
 ·rcases ho.ow.row.2 with⟨h1,qq⟩|⟨b,cap,qw,hv,_,hw,pN,uD,De,FH⟩
  ·rw[gm]at qq;omega
  ·simp only[Value.slice.injEq]at hv;obtain⟨xM,_,MP⟩:=hv;rw[gm]at pN FH;rw[sr,Nat.mul_one]at De FH;have Rz:b<w.heap.size:=by
    rcases Nat.lt_or_ge b w.heap.size with hb|hb
    ·exact hb
    ·rw[Array.getElem?_eq_none hb]at hw;cases hw
   have hsv:wq g.a g.c i.toNat T.z=some ⟨b,i.toNat,none⟩:=by
    unfold wq;rw[if_neg (by rw[MP];omega),xM,sr,Nat.mul_one];show some ((⟨b,0,none⟩:Addr).add i.toNat)=_;unfold Addr.add;simp;omega
   have FI:dW gx.a:=hs.1.ok (by omega);obtain⟨bs,os,Zj⟩:∃bs os,gx.a=some ⟨bs,os,none⟩:=by
    cases hg:gx.a with
    |none=>rw[hg]at FI;simp[dW]at FI
    |some A=>
     rw[hg]at FI;obtain⟨bs,os,r⟩:=A;cases r with
     |none=>exact⟨bs,os,rfl⟩
     |some _=>simp[dW]at FI
   let cs:=((dd (xs.take m) gx.s 0).map (fJ T)).flatten
   have xI:cs.length=m:=by
    show((dd (xs.take m) gx.s 0).map (fJ T)).flatten.length=m;rw[yR (enc:=fJ T) (z:=T.z) (λp=>T.len p.1 p.2),gm,pj,sr,Nat.mul_one]
   have a5B:∀j v,cs[j]?=some v→w.cell? ((⟨bs,os,none⟩:Addr).add j)=some v:=by
    intro j v hj;have hjm:j<m:=by
     rcases Nat.lt_or_ge j m with h|h
     ·exact h
     ·rw[List.getElem?_eq_none (by omega)]at hj;cases hj
    have hg:=hs.1.get j (by omega) 0 v (by
     rw[←Zf sr (xs.take m) gx.s j (by rw[pj];exact hjm),List.getElem_take]at hj;exact hj)
    rw[Zj,sr,Nat.mul_one,Nat.add_zero]at hg;unfold Addr.add;split
    ·rename_i h0;rw[h0]at hg;exact hg
    ·exact hg
   have hl:=run_loadCells_list (P:=P) w ⟨bs,os,none⟩ cs a5B;obtain⟨w',h2,h3,Df⟩:=Rv (P:=P) (off:=i.toNat) cs 0 w qw.toList (Zg _ _) (by simpa using hw) (by rw[xI];simp only[Array.length_toList];omega);rw[Nat.add_zero]at Df;have D7:Kp (ay (.own e T q g::L)) w w':=h3.wide (by intro y hy;simp only[List.mem_singleton]at hy;subst hy;simp only[ay,List.mem_append];left;simp only[a8.own,xM,gk,List.mem_singleton]);have yT:=Ze (T:=T) sr (xs.take m) q i.toNat g.s gx.s (by rw[pj];omega);rw[pj]at yT;have IP:B3 q i.toNat (xs.take m)=qz q i xs:=by unfold qz;rw[yQ]
   rw[IP]at yT;refine bh.oz (v:=.int .i64 (B4 q i xs)) (w':=w') ?_ ⟨rfl,FK g.s i.toNat m gx.s,fin _ _ D7 ⟨⟨?_,.inr ⟨b,cap,⟨kg qw.toList i.toNat cs⟩,?_,Nat.zero_le _,by simpa using Df,?_,uD,?_,?_⟩⟩,?_,?_⟩ MR⟩
   ·have a5C:B4 q i xs=(m:Int):=by unfold B4;rw[yQ]
    rw[a5C];have MS:(Builtin.copy_ #[tx,RD] ty #[.slice (wq g.a g.c i.toNat T.z) (q.length-i.toNat) c0,.slice gx.a xs.length c1]).run P w=.ok (goInt m) w':=by
     rw[hsv,Zj];cases RE:P.info? E with
     |none=>simp[RE]at hz
     |some inf=>
      have hi1:inf.size=1:=by simpa[RE]using hz
      rw[xI]at hl;simp[Builtin.copy_,run_underlying hu,Builtin.lenOf,Builtin.firstCells,sizeOf,typeInfo,RE,hi1,yQ,hl,h2]
    simp only[execOp,resolve,Sem.run_bind,Sem.run_pure,Result.andThen_ok,invoke,builtin,List.map_toArray,List.map_cons,List.map_nil,H.ev (eT a) hx,H.ev (eT a) hy,MS];rfl
   ·rw[yR (enc:=fJ T) (λp=>T.len p.1 p.2),gm]
   ·rw[xM,MP]
   ·rw[gm,B5];exact pN
   ·simp[Rx,De,sr]
   ·rw[gm,sr,Nat.mul_one,B5];show(kg qw.toList _ _).take q.length=_;rw[Ry _ _ _ _ (by rw[xI];omega),FH,yT]
   ·intro y hy;rw[xM]at hy;simp[gk]at hy;subst hy;exact Nat.lt_of_lt_of_le Rz h3.size
   ·rw[gm,B5];have:=ho.ow.ln;rw[gm]at this;exact this
end
end
section
variable {M:Av} {X:List Nat} {w0 w w':World} {L La Lr L':List a8}
theorem Dg(A B:List a8):ay (A++B)=ay A++ay B:=by
 induction A with
 |nil=>rfl
 |cons e r ih=>simp[ay,ih]
theorem RF{A B:List a8}(h:A.Perm B){b:Nat}:b∈ay A↔b∈ay B:=by
 rw[jy,jy];exact⟨λ⟨e,he,hb⟩=>⟨e,h.mem_iff.1 he,hb⟩,λ⟨e,he,hb⟩=>⟨e,h.mem_iff.2 he,hb⟩⟩
theorem SH.perm(h:SH M X w0 L w)(hp:L.Perm L'):SH M X w0 L' w:=
 ⟨h.kp,(hp.pairwise_iff (λ{e f} h=>Dj.symm h)).1 h.nd,λb hb=>h.lo b ((RF hp).2 hb),λb hb=>h.nm b ((RF hp).2 hb),h.mx,λe he=>e.bS (h.ps e (hp.mem_iff.2 he)) λb hb=>by
  rcases hb with hb|hb
  ·exact .inl hb
  ·exact .inr ((RF hp).2 hb)⟩
theorem SH.Zk(h:SH M X w0 (La++Lr) w):S0 (dR M Lr) La w:=by
 have hn:=h.nd;rw[List.pairwise_append]at hn;have j5:∀{b:Nat},b∈ay La→b∈ay (La++Lr):=λhb=>by rw[Dg];exact List.mem_append_left _ hb
 have FL:∀{b:Nat},b∈ay Lr→b∈ay (La++Lr):=λhb=>by rw[Dg];exact List.mem_append_right _ hb
 refine⟨Kp.refl _ _,hn.1,λb hb=>.inr hb,λb hb hm=>?_,λb hm=>?_,λe he=>e.bS (h.ps e (List.mem_append_left _ he)) λb hb=>?_⟩
 ·rcases hm with hm|hm
  ·exact h.nm b (j5 hb) hm
  ·obtain⟨e,he,IV⟩:=jy.1 hb;obtain⟨f,hf,J0⟩:=jy.1 hm;exact hn.2.2 e he f hf b IV J0
 ·rcases hm with hm|hm
  ·exact Nat.lt_of_lt_of_le (h.mx b hm) h.kp.size
  ·exact h.YU (FL hm)
 ·rcases hb with(hb|hb)|hb
  ·exact .inl hb
  ·exact .inr (FL hb)
  ·exact .inr (j5 hb)
theorem SH.Zl(h:SH M X w0 (La++Lr) w)(h2:SH (dR M Lr) (ay La) w L' w'):SH M X w0 (L'++Lr) w':=by
 have hn:=h.nd;rw[List.pairwise_append]at hn;have j5:∀{b:Nat},b∈ay La→b∈ay (La++Lr):=λhb=>by rw[Dg];exact List.mem_append_left _ hb
 have FL:∀{b:Nat},b∈ay Lr→b∈ay (La++Lr):=λhb=>by rw[Dg];exact List.mem_append_right _ hb
 have MT:∀{b:Nat},b∈ay (L'++Lr)→b∈ay L'∨b∈ay Lr:=λhb=>by rw[Dg]at hb;exact List.mem_append.1 hb
 refine⟨h.kp.trans h2.kp (λy hy=>?_),?_,λb hb=>?_,λb hb=>?_,h.mx,λe he=>?_⟩
 ·rcases h.lo y (j5 hy)with h1|h1
  ·exact .inr h1
  ·exact .inl h1
 ·rw[List.pairwise_append];refine⟨h2.nd,hn.2.1,λe he f hf y hy yW=>?_⟩;exact h2.nm y (jy.2 ⟨e,he,hy⟩) (.inr (jy.2 ⟨f,hf,yW⟩))
 ·rcases MT hb with hb|hb
  ·rcases h2.lo b hb with h1|h1
   ·exact .inl (Nat.le_trans h.kp.size h1)
   ·exact h.lo b (j5 h1)
  ·exact h.lo b (FL hb)
 ·rcases MT hb with hb|hb
  ·exact λhm=>h2.nm b hb (.inl hm)
  ·exact h.nm b (FL hb)
 ·rcases List.mem_append.1 he with he|he
  ·refine e.bS (h2.ps e he) λb hb=>?_;rcases hb with hb|hb
   ·exact .inl (.inl hb)
   ·rcases MT hb with hb|hb
    ·exact .inr hb
    ·exact .inl (.inr hb)
  ·have hp:=e.fresh (h.ps e (List.mem_append_right _ he));refine e.bS (e.kp hp h2.kp (λb hb=>.inl (.inr (j5 hb))) (λb hb yV=>?_)) λb hb=>?_
   ·obtain⟨f,hf,J0⟩:=jy.1 yV;exact hn.2.2 f hf e he b J0 hb
   ·rcases hb with hb|hb
    ·exact .inl (.inl hb)
    ·rcases MT hb with hb|hb
     ·rcases h2.lo b hb with h1|h1
      ·exact .inr h1
      ·exact .inl (.inr (j5 h1))
     ·exact .inl (.inr (FL hb))
end
abbrev Gm:=Nat→Nat→Gh
def dK(y:Gm)(i:Nat)(g:Nat→Gh):Gm:=λj=>cond (Nat.beq j i) g (y j)
theorem a5D(y:Gm)(g:Nat→Gh){i j:Nat}(h:j≠i):dK y i g j=y j:=by
 unfold dK;cases hb:Nat.beq j i with
 |true=>exact absurd (Nat.eq_of_beq_eq_true hb) h
 |false=>rfl
def gE:Nat→Nat→(Nat→Prop)→Prop
 |0,_,_=>True
 |n+1,i,p=>p i∧gE n (i+1) p
theorem gE.get{p:Nat→Prop}:∀{n i:Nat},gE n i p→∀j,i≤j→j<i+n→p j
 |0,i,_,j,h1,h2=>by omega
 |n+1,i,h,j,h1,h2=>by
  by_cases e:j=i
  ·subst e;exact h.1
  ·exact gE.get h.2 j (by omega) (by omega)
def dM(all:List Oper)(i:Nat):Option Nat:=(all[i]?).bind (·.dst)
def r6(n:Nat)(base:SF)(all:List Oper):Bool:=
 (all.all λo=>true&&match o.dst with|some d=>Nat.blt d n&&base.all λe=>e.2.1.isEmpty&&!(Nat.beq e.1 d)|none=>base.all λe=>e.2.1.isEmpty)&&Dh (all.map (·.dst))
where Dh:List (Option Nat)→Bool
 |[]=>true
 |none::r=>Dh r
 |some d::r=>(r.all λq=>match q with|some e=>!(Nat.beq d e)|none=>true)&&Dh r
theorem MU:∀{l:List (Option Nat)},r6.Dh l=true→∀(i j:Nat)(d e:Nat),i<j→l[i]?=some (some d)→l[j]?=some (some e)→d≠e
 |[],_,i,j,d,e,_,h,_=>by simp at h
 |none::r,hn,i,j,d,e,dL,h1,h2=>by
  match i,j,dL with
  |0,_,_=>simp at h1
  |i+1,j+1,dL=>exact MU (l:=r) (by simpa[r6.Dh]using hn) i j d e (by omega) (by simpa using h1) (by simpa using h2)
 |some x::r,hn,i,j,d,e,dL,h1,h2=>by
  have MV:(r.all λq=>match q with|some e=>!(Nat.beq x e)|none=>true)=true∧r6.Dh r=true:=by simpa[r6.Dh]using hn
  match i,j,dL with
  |0,j+1,_=>
   have hx:x=d:=by simpa using h1
   subst hx;have:=(List.all_eq_true.1 MV.1) (some e) (List.mem_of_getElem? (by simpa using h2));intro hde;subst hde;simp at this
  |i+1,j+1,dL=>exact MU (l:=r) MV.2 i j d e (by omega) (by simpa using h1) (by simpa using h2)
def cO(N:Nat)(ress:Gm→List (List a8))(L:List a8)(y:Gm):List Nat→List a8
 |[]=>[]
 |j::r=>(cond (Nat.blt j N) ((ress y).getD j []) [L.getD (j-N) .none])++cO N ress L y r
def ic(l:List Nat)(j:Nat):Bool:=l.any λk=>Nat.beq k j
theorem qA{l:List Nat}{j:Nat}:ic l j=true↔j∈l:=by
 unfold ic;rw[List.any_eq_true];exact⟨λ⟨k,hk,h⟩=>by rw[←Nat.eq_of_beq_eq_true h];exact hk,λh=>⟨j,h,by simp⟩⟩
def nodupB:List Nat→Bool
 |[]=>true
 |k::r=>!ic r k&&nodupB r
theorem Zm:∀{l:List Nat},nodupB l=true→l.Nodup
 |[],_=>List.nodup_nil
 |k::r,h=>by
  unfold nodupB at h;rw[Bool.and_eq_true]at h;rw[List.nodup_cons];refine⟨λhk=>?_,Zm h.2⟩;rw[qA.2 hk]at h;simp at h
def xN(N m:Nat)(all:List Oper)(use cons cG:List (List Nat)):Bool:=
 (List.range N).all λi=>
  nodupB (use.getD i [])&&
  ((use.getD i []).all λj=>Nat.blt j (N+m)&&(!(Nat.blt j N)||reach all N i j)&&(List.range N).all λk=>!(ic (cons.getD k []) j)||Nat.beq k i||reach all N k i)&&
  ((cons.getD i []).all λj=>ic (use.getD i []) j)&&
  ((cG.getD i []).all λj=>Nat.beq j i||reach all N i j)&&
  ((List.range N).all λk=>Nat.beq k i||(cons.getD k []).all λj=>!(ic (cons.getD i []) j))
def gG(listed:Array Bool)(k:Nat):Bool:=listed.getD k false
def ss(N:Nat)(cons:List (List Nat))(listed:Array Bool)(j:Nat):Bool:=(List.range N).any λk=>gG listed k&&ic (cons.getD k []) j
def nA(N m:Nat)(cons:List (List Nat))(listed:Array Bool):List Nat:=(List.range (N+m)).filter λj=>(!(Nat.blt j N)||gG listed j)&&!(ss N cons listed j)
def uF(N m:Nat)(cons:List (List Nat)):List Nat:=(List.range (N+m)).filter λj=>!((List.range N).any λk=>ic (cons.getD k []) j)
section
variable {N:Nat} {ress:Gm→List (List a8)} {L:List a8} {y:Gm}
theorem Zn(A B:List Nat):cO N ress L y (A++B)=cO N ress L y A++cO N ress L y B:=by
 induction A with
 |nil=>rfl
 |cons j r ih=>simp[cO,ih]
theorem Zo{A B:List Nat}(h:A.Perm B):(cO N ress L y A).Perm (cO N ress L y B):=by
 induction h with
 |nil=>exact List.Perm.nil
 |cons x _ ih=>exact List.Perm.append_left _ ih
 |swap x z l=>
  simp only[cO,←List.append_assoc];exact List.Perm.append_right _ List.perm_append_comm
 |trans _ _ h1 h2=>exact h1.trans h2
theorem a5E{y':Gm}{A:List Nat}(h:∀j∈A,Nat.blt j N=true→(ress y).getD j []=(ress y').getD j []):cO N ress L y A=cO N ress L y' A:=by
 induction A with
 |nil=>rfl
 |cons j r ih=>
  simp only[cO];rw[ih λk hk=>h k (List.mem_cons_of_mem _ hk)];congr 1;cases hb:Nat.blt j N with
  |true=>simp only[cond_true];exact h j List.mem_cons_self hb
  |false=>rfl
end
def yZ(N:Nat)(all:List Oper)(ei:List (Nat×Nat×Value)):Bool:=
 ei.all λe=>Nat.blt e.2.1 N&&(List.range N).all λi=>Nat.beq i e.2.1||!(dM all i==some e.1)
structure DI{n:Nat}(N m:Nat)(base:SF)(all:List Oper)(cons:List (List Nat))(bU:Gm→List Value)(ress:Gm→List (List a8))(L:List a8)(ei:List (Nat×Nat×Value))(M:Av)(X:List Nat)(wE:World)(listed:Array Bool)(a:Act)(w:World)(y:Gm):Prop where
 size:listed.size=N
 fr:aw [] n base a
 did:∀i,gG listed i=true→∀d,dM all i=some d→a.tmps[d]?=some ((bU y).getD i undef)
 cl:∀(i:Nat)(o:Oper),gG listed i=true→all[i]?=some o→∀e∈o.after,Region.binds .any e=true→gG listed e.on=true
 sh:SH M X wE (cO N ress L y (nA N m cons listed)) w
 od:∀(k:Nat) e,ei[k]?=some e→gG listed e.2.1=false→a.tmps[e.1]?=some e.2.2
theorem J1{l:List Nat}(p:Nat→Bool)(h:l.Nodup):(l.filter p).Nodup:=List.Pairwise.filter p h
theorem nt{b:Bool}:(!b)=true↔¬b=true:=by cases b<;>simp
theorem Zp{j N:Nat}:Nat.blt j N=true↔j<N:=by simp[Nat.blt,Nat.lt_iff_add_one_le]
theorem r7{listed:Array Bool}{i:Nat}:gG listed i=true↔listed[i]?=some true:=by
 unfold gG;rw[Array.getD_eq_getD_getElem?];cases h:listed[i]? with
 |none=>simp
 |some b=>simp
@[reducible] def tM (o:Oper):Oper:=match o with
 |⟨d,op,ty,pos,after,_⟩=>⟨d,op,ty,pos,after,none⟩
def tN(all:List Oper)(bU:Gm→List Value)(cG:List (List Nat))(i:Nat):Option (Nat×Bool)→Prop
 |none=>True
 |some (j,b)=>(ic (cG.getD i []) j&&!(Nat.beq j i)&&(dM all j).isSome)=true∧∀y,(bU y).getD j undef=.bool b
def J2(all:List Oper)(bU:Gm→List Value)(ress:Gm→List (List a8))(use cG:List (List Nat))(i:Nat):Option (Nat×Bool)→Prop
 |none=>False
 |some (j,b)=>(ic (cG.getD i []) j&&!(Nat.beq j i)&&(dM all j).isSome)=true∧((∀y,(bU y).getD j undef=.bool (!b))∨∀y,(bU y).getD j undef=undef)∧(∀y,(bU y).getD i undef=undef∧(ress y).getD i []=[])∧use.getD i []=[]
theorem gE.and{p q:Nat→Prop}:∀{n i:Nat},gE n i p→gE n i q→gE n i λi=>p i∧q i
 |0,_,_,_=>trivial
 |_+1,_,h,k=>⟨⟨h.1,k.1⟩,gE.and h.2 k.2⟩
theorem gE.imp{p q:Nat→Prop}(f:∀i,p i→q i):∀{n i:Nat},gE n i p→gE n i q
 |0,_,_=>trivial
 |_+1,i,h=>⟨f i h.1,gE.imp f h.2⟩
theorem mW{all:List Oper}{bU:Gm→List Value}{cG:List (List Nat)}(h:(all.all λo=>o.guard.isNone)=true):∀n i,gE n i λi=>tN all bU cG i ((all[i]?).bind (·.guard))
 |0,_=>trivial
 |n+1,i=>by
  refine⟨?_,mW h n (i+1)⟩;show tN all bU cG i ((all[i]?).bind (·.guard));cases hi:all[i]? with
  |none=>trivial
  |some o=>
   have:=List.all_eq_true.1 h o (List.mem_of_getElem? hi);have h2:o.guard=none:=by simpa using this
   show tN all bU cG i o.guard;rw[h2];trivial
theorem Zq{P:Program}{n id:Nat}{all:List Oper}{Q:Exit→Act→World→Prop}{a:Act}{w wE:World}{base:SF}{M:Av}{X:List Nat}{L:List a8}(N m:Nat)(bU:Gm→List Value)(ress:Gm→List (List a8))(use cons cG:List (List Nat))(ei:List (Nat×Nat×Value))
  (H:aw [] n base a)(hold:∀(k:Nat) e,ei[k]?=some e→a.tmps[e.1]?=some e.2.2)(oE:yZ N all ei=true)(hS:SH M X wE L w)(hm:P.follows .mixedOrders=true)(hN:all.length=N)(hL:L.length=m)(j4:r6 n base all=true)(kR:xJ all=true)(pP:xN N m all use cons cG=true)
  (wu:gE N 0 λj=>∀(y:Gm)(i:Nat)(g:Nat→Gh),i∉cG.getD j []→(bU (dK y i g)).getD j undef=(bU y).getD j undef∧(ress (dK y i g)).getD j []=(ress y).getD j [])
  (hA:gE N 0 λi=>J2 all bU ress use cG i ((all[i]?).bind (·.guard))∨(tN all bU cG i ((all[i]?).bind (·.guard))∧∀o,all[i]?=some o→∀a' w' y M',aw [] n base a'→(∀j∈cG.getD i [],j≠i→∀d,dM all j=some d→a'.tmps[d]?=some ((bU y).getD j undef))→(∀(k:Nat) e,ei[k]?=some e→(Nat.beq e.2.1 i||reach all N e.2.1 i)=true→a'.tmps[e.1]?=some e.2.2)→S0 M' (cO N ress L y (use.getD i [])) w'→
   bh P (tM o) a' w' λv w2=>∃g:Nat→Gh,(∀d,dM all i=some d→v=(bU (dK y i g)).getD i undef)∧SH M' (ay (cO N ress L y (use.getD i []))) w' ((ress (dK y i g)).getD i []++cO N ress L y ((use.getD i []).filter λj=>!(ic (cons.getD i []) j))) w2))
  (hK:∀a' w' y,aw [] n base a'→(∀i d,dM all i=some d→a'.tmps[d]?=some ((bU y).getD i undef))→SH M X wE (cO N ress L y (uF N m cons)) w'→Q .normal a' w'):
  (Code.region id all.toArray true).wp P Q a w:=by
 subst hN;have Zr:∀(y:Gm)(i:Nat)(g:Nat→Gh)(j:Nat),j<all.length→i∉cG.getD j []→(bU (dK y i g)).getD j undef=(bU y).getD j undef∧(ress (dK y i g)).getD j []=(ress y).getD j []:=λy i g j hj=>wu.get j (by omega) (by omega) y i g;unfold r6 at j4;rw[Bool.and_eq_true,List.all_eq_true]at j4;obtain⟨a5F,J3⟩:=j4;have RG:∀i o,all[i]?=some o→True∧o.dst=dM all i∧(∀e∈base,e.2.1=[])∧∀d,dM all i=some d→Nat.blt d n=true∧∀e∈base,e.1≠d:=by
  intro i o ho;have h1:=a5F o (List.mem_of_getElem? ho);rw[Bool.and_eq_true]at h1;obtain⟨h2,h3⟩:=h1;have e1:dM all i=o.dst:=by simp[dM,ho]
  rw[e1];cases hd:o.dst with
  |none=>
   simp only[hd,List.all_eq_true]at h3;exact⟨trivial,rfl,λe he=>by have:=h3 e he;simpa using this,λd hd=>by cases hd⟩
  |some d=>
   simp only[hd,Bool.and_eq_true,List.all_eq_true]at h3;refine⟨trivial,rfl,λe he=>?_,λd' fL=>?_⟩
   ·have:=h3.2 e he;simp only[List.isEmpty_iff]at this;exact this.1
   ·cases fL;refine⟨h3.1,λe he=>?_⟩;have:=h3.2 e he;simp only[Bool.not_eq_true']at this;exact Nat.ne_of_beq_eq_false this.2
 have a5G:∀i j d e,i≠j→dM all i=some d→dM all j=some e→d≠e:=by
  intro i j d e dL h1 h2;have g1:(all.map (·.dst))[i]?=some (some d):=by
   unfold dM at h1;rw[List.getElem?_map];cases hx:all[i]? with
   |none=>rw[hx]at h1;cases h1
   |some o=>rw[hx]at h1;simpa using h1
  have g2:(all.map (·.dst))[j]?=some (some e):=by
   unfold dM at h2;rw[List.getElem?_map];cases hx:all[j]? with
   |none=>rw[hx]at h2;cases h2
   |some o=>rw[hx]at h2;simpa using h2
  rcases Nat.lt_or_gt_of_ne dL with dJ|dJ
  ·exact MU J3 i j d e dJ g1 g2
  ·exact λh=>MU J3 j i e d dJ g2 g1 h.symm
 have a5H:∀i o,all[i]?=some o→∀e∈o.after,Region.binds .any e=true→e.on<i:=by
  intro i o ho e he hb;have hi:i<all.length:=(List.getElem?_eq_some_iff.1 ho).1;have h1:=(List.all_eq_true.1 kR) i (List.mem_range.2 hi);rw[ho]at h1;have h2:=(List.all_eq_true.1 h1) e (by simpa using he);rw[hb]at h2;simpa[Nat.blt,Nat.lt_iff_add_one_le]using h2
 -- what was checked
 have RH:∀i,i<all.length→(use.getD i []).Nodup∧(∀j∈use.getD i [],j<all.length+m∧(j<all.length→reach all all.length i j=true)∧∀k,k<all.length→j∈cons.getD k []→k=i∨reach all all.length k i=true)∧
   (∀j∈cons.getD i [],j∈use.getD i [])∧(∀j∈cG.getD i [],j=i∨reach all all.length i j=true)∧∀k,k<all.length→k≠i→∀j∈cons.getD k [],j∉cons.getD i []:=by
  intro i hi;have h1:=(List.all_eq_true.1 pP) i (List.mem_range.2 hi);simp only[Bool.and_eq_true]at h1;obtain⟨⟨⟨⟨h1,h2⟩,h3⟩,h4⟩,h5⟩:=h1;refine⟨Zm h1,λj hj=>?_,λj hj=>qA.1 ((List.all_eq_true.1 h3) j hj),λj hj=>?_,λk hk hki j hj z1=>?_⟩
  ·have:=(List.all_eq_true.1 h2) j hj;simp only[Bool.and_eq_true,Bool.or_eq_true,Bool.not_eq_true']at this;obtain⟨⟨p1,p2⟩,p3⟩:=this;refine⟨by simpa[Nat.blt,Nat.lt_iff_add_one_le]using p1,λtO=>?_,λk hk hjk=>?_⟩
   ·rcases p2 with p2|p2
    ·have:Nat.blt j all.length=true:=by simpa[Nat.blt,Nat.lt_iff_add_one_le]using tO
     rw[this]at p2;cases p2
    ·exact p2
   ·have:=(List.all_eq_true.1 p3) k (List.mem_range.2 hk);simp only[Bool.or_eq_true,Bool.not_eq_true']at this;rcases this with(q|q)|q
    ·rw[qA.2 hjk]at q;cases q
    ·exact .inl (Nat.eq_of_beq_eq_true q)
    ·exact .inr q
  ·have:=(List.all_eq_true.1 h4) j hj;simp only[Bool.or_eq_true]at this;rcases this with q|q
   ·exact .inl (Nat.eq_of_beq_eq_true q)
   ·exact .inr q
  ·have:=(List.all_eq_true.1 h5) k (List.mem_range.2 hk);simp only[Bool.or_eq_true]at this;rcases this with q|q
   ·exact hki (Nat.eq_of_beq_eq_true q)
   ·have:=(List.all_eq_true.1 q) j hj;rw[qA.2 z1]at this;cases this
 refine wp_region_any hm ?_;have Zs:∀(listed:Array Bool)(a':Act)(w':World)(y:Gm),DI (n:=n) all.length m base all cons bU ress L ei M X wE listed a' w' y→Region.ready .any all.toArray listed=[]→Q .normal a' w':=by
  intro listed a' w' y hI hr;have za:∀i,i<all.length→gG listed i=true:=by
   intro i
   induction i using Nat.strongRecOn with
   |_ i ih=>
    intro hi;have Zt:i<listed.size:=by rw[hI.size];exact hi
    cases hb:listed[i]with
    |true=>rw[r7,Array.getElem?_eq_getElem Zt,hb]
    |false=>
     exfalso;have:i∈Region.ready .any all.toArray listed:=by
      rw[mem_ready];refine⟨by simp[Zt,hb],all[i],by simp[hi],λe he IK=>?_⟩;have dJ:=a5H i all[i] (List.getElem?_eq_getElem hi) e he IK;exact ih e.on dJ (by omega)
     rw[hr]at this;cases this
  have yT:nA all.length m cons listed=uF all.length m cons:=by
   unfold nA uF;apply List.filter_congr;intro j _;have h1:(!(Nat.blt j all.length)||gG listed j)=true:=by
    cases hb:Nat.blt j all.length with
    |false=>rfl
    |true=>simp only[Bool.not_true,Bool.false_or];exact za j (by simpa[Nat.blt,Nat.lt_iff_add_one_le]using hb)
   rw[h1,Bool.true_and];congr 1;unfold ss;rw[Bool.eq_iff_iff,List.any_eq_true,List.any_eq_true];constructor
   ·rintro⟨k,hk,h⟩;rw[Bool.and_eq_true]at h;exact⟨k,hk,h.2⟩
   ·rintro⟨k,hk,h⟩;exact⟨k,hk,by rw[za k (List.mem_range.1 hk),h];rfl⟩
  refine hK a' w' y hI.fr (λi d hd=>hI.did i (za i ?_) d hd) (yT▸hI.sh);unfold dM at hd;rcases Nat.lt_or_ge i all.length with h|h
  ·exact h
  ·rw[List.getElem?_eq_none h]at hd;cases hd
 have key:∀(fuel:Nat)(listed:Array Bool)(a':Act)(w':World)(y:Gm),DI (n:=n) all.length m base all cons bU ress L ei M X wE listed a' w' y→listed.toList.count false=fuel→wpAny P .any all.toArray Q fuel listed a' w':=by
  intro fuel
  induction fuel with
  |zero=>
   intro listed a' w' y hI hc;have Zu:Region.ready .any all.toArray listed=[]:=by
    rw[List.eq_nil_iff_forall_not_mem];intro i hi;have h1:=(mem_ready.1 hi).1;have h2:=List.count_eq_zero.1 hc;have dJ:i<listed.size:=by
     rcases Nat.lt_or_ge i listed.size with h|h
     ·exact h
     ·simp[Array.getD_eq_getD_getElem?,Array.getElem?_eq_none h]at h1
    apply h2;simp[Array.getD_eq_getD_getElem?,dJ]at h1;rw[←h1];simp
   exact⟨Zu,Zs listed a' w' y hI Zu⟩
  |succ fuel ih=>
   intro listed a' w' y hI hc;refine⟨Zs listed a' w' y hI,λi hi=>?_⟩;obtain⟨Zv,o,ho,za⟩:=mem_ready.1 hi;have dJ:i<listed.size:=by
    rcases Nat.lt_or_ge i listed.size with h|h
    ·exact h
    ·simp[Array.getD_eq_getD_getElem?,Array.getElem?_eq_none h]at Zv
   have Zw:listed[i]=false:=by simpa[Array.getD_eq_getD_getElem?,dJ]using Zv
   have MW:all[i]?=some o:=by simpa using ho
   obtain⟨_,hd,a5I,Zx⟩:=RG i o MW;have FM:i<all.length:=by rw[←hI.size];exact dJ
   obtain⟨c1,c2,c3,c4,c5⟩:=RH i FM;have Zy:∀e∈o.after,Region.binds .any e=true→listed[e.on]?=some true:=λe he hb=>r7.1 (za e he hb);have RI:∀(i:Nat)(o:Oper),listed[i]?=some true→all[i]?=some o→∀e∈o.after,Region.binds .any e=true→listed[e.on]?=some true:=λi o h1 h2 e he hb=>r7.1 (hI.cl i o (r7.2 h1) h2 e he hb);have MX:∀j,reach all all.length i j=true→gG listed j=true:=λj hj=>r7.2 (Rk RI _ i j o MW Zy hj);have FN:gG listed i=false:=by
    cases hb:gG listed i with
    |false=>rfl
    |true=>rw[r7,Array.getElem?_eq_getElem dJ,Zw]at hb;cases hb
   have MY:∀k,gG listed k=true→reach all all.length k i=true→False:=by
    intro k hk hr;have hkl:k<all.length:=by
     rw[←hI.size];rcases Nat.lt_or_ge k listed.size with h|h
     ·exact h
     ·rw[r7,Array.getElem?_eq_none h]at hk;cases hk
    have j4:all[k]?=some all[k]:=List.getElem?_eq_getElem hkl;have:=r7.2 (Rk RI _ k i all[k] j4 (λe he hb=>RI k _ (r7.1 hk) j4 e he hb) hr);rw[FN]at this;cases this
   -- what is used is there
   have J4:∀j∈use.getD i [],j∈nA all.length m cons listed:=by
    intro j hj;obtain⟨q1,q2,q3⟩:=c2 j hj;unfold nA;rw[List.mem_filter,List.mem_range,Bool.and_eq_true];refine⟨q1,?_,?_⟩
    ·rcases Nat.lt_or_ge j all.length with h|h
     ·rw[MX j (q2 h)];simp
     ·have:Nat.blt j all.length=false:=by
       cases hb:Nat.blt j all.length with
       |false=>rfl
       |true=>
        have:j<all.length:=by simpa[Nat.blt,Nat.lt_iff_add_one_le]using hb
        omega
      rw[this];rfl
    ·cases hb:ss all.length cons listed j with
     |false=>rfl
     |true=>
      exfalso;unfold ss at hb;rw[List.any_eq_true]at hb;obtain⟨k,hk,hb⟩:=hb;rw[Bool.and_eq_true]at hb;rcases q3 k (List.mem_range.1 hk) (qA.1 hb.2)with rfl|hr
      ·rw[FN]at hb;cases hb.1
      ·exact MY k hb.1 hr
   have RJ:(nA all.length m cons listed).Nodup:=J1 _ List.nodup_range
   let U:=use.getD i []
   let C:=cons.getD i []
   let R:=(nA all.length m cons listed).filter λj=>!(ic U j)
   have hpu:(nA all.length m cons listed).Perm (U++R):=by
    rw[List.perm_ext_iff_of_nodup RJ]
    ·intro j;rw[List.mem_append,List.mem_filter];constructor
     ·intro hj;by_cases Zz:j∈U
      ·exact .inl Zz
      ·refine .inr ⟨hj,?_⟩;cases hb:ic U j with
       |false=>rfl
       |true=>exact absurd (qA.1 hb) Zz
     ·rintro(hj|hj)
      ·exact J4 j hj
      ·exact hj.1
    ·rw[List.nodup_append];refine⟨c1,J1 _ RJ,λx hx z hz e=>?_⟩;subst e;rw[List.mem_filter,qA.2 hx]at hz;cases hz.2
   have MZ:=hI.sh.perm (Zo (N:=all.length) (ress:=ress) (L:=L) (y:=y) hpu);rw[Zn]at MZ;have hh:=MZ.Zk;have a5J:∀(k:Nat) e,ei[k]?=some e→(Nat.beq e.2.1 i||reach all all.length e.2.1 i)=true→a'.tmps[e.1]?=some e.2.2:=by
    intro k e he hr;refine hI.od k e he ?_;rw[Bool.or_eq_true]at hr;rcases hr with hr|hr
    ·rw[Nat.eq_of_beq_eq_true hr];exact FN
    ·cases hb:gG listed e.2.1 with
     |false=>rfl
     |true=>exact(MY e.2.1 hb hr).elim
   have fin:∀(v:Value)(w2:World)(g:Nat→Gh),(∀d,dM all i=some d→v=(bU (dK y i g)).getD i undef)→SH (dR M (cO all.length ress L y R)) (ay (cO all.length ress L y U)) w' ((ress (dK y i g)).getD i []++cO all.length ress L y (U.filter λj=>!(ic C j))) w2→
     wpAny P .any all.toArray Q fuel (listed.setIfInBounds i true) (a'.put (dM all i) v) w2:=by
    intro v w2 g hv wv;have xO:∀j:Nat,gG (listed.setIfInBounds i true) j=true↔j=i∨gG listed j=true:=by
     intro j;rw[r7,r7,Array.getElem?_setIfInBounds];by_cases e:i=j
     ·subst e;simp[dJ]
     ·rw[if_neg e];exact⟨λh=>.inr h,λh=>h.resolve_left λx=>e x.symm⟩
    have ZA:∀j,gG listed j=true→j<all.length:=by
     intro j hj;rw[←hI.size];rcases Nat.lt_or_ge j listed.size with h|h
     ·exact h
     ·rw[r7,Array.getElem?_eq_none h]at hj;cases hj
    -- the others stand on nothing of this one
    have ZB:∀j,gG listed j=true→i∉cG.getD j []:=by
     intro j hj IR;obtain⟨_,_,_,d4,_⟩:=RH j (ZA j hj);rcases d4 i IR with e|hr
     ·subst e;rw[FN]at hj;cases hj
     ·exact MY j hj hr
    have ZC:∀j,j∈nA all.length m cons listed→j<all.length→gG listed j=true:=by
     intro j hj tO;unfold nA at hj;rw[List.mem_filter,Bool.and_eq_true]at hj;have hb:Nat.blt j all.length=true:=by simpa[Nat.blt,Nat.lt_iff_add_one_le]using tO
     have:=hj.2.1;rw[hb]at this;simpa using this
    have ZD:∀A:List Nat,(∀j∈A,j∈nA all.length m cons listed)→cO all.length ress L y A=cO all.length ress L (dK y i g) A:=by
     intro A hA;refine a5E λj hj hb=>?_;have tO:j<all.length:=by simpa[Nat.blt,Nat.lt_iff_add_one_le]using hb
     exact(Zr y i g j tO (ZB j (ZC j (hA j hj) tO))).2.symm
    have a5K:=MZ.Zl wv
    let K:=U.filter λj=>!(ic C j)
    have e1:cO all.length ress L y K=cO all.length ress L (dK y i g) K:=ZD K λj hj=>J4 j (List.mem_filter.1 hj).1;have e2:cO all.length ress L y R=cO all.length ress L (dK y i g) R:=ZD R λj hj=>(List.mem_filter.1 hj).1;have hbi:Nat.blt i all.length=true:=by simpa[Nat.blt,Nat.lt_iff_add_one_le]using FM
    have e3:(ress (dK y i g)).getD i []++cO all.length ress L (dK y i g) K++cO all.length ress L (dK y i g) R=cO all.length ress L (dK y i g) (i::(K++R)):=by
     simp only[cO,hbi,cond_true,Zn,List.append_assoc]
    have a5L:SH M X wE (cO all.length ress L (dK y i g) (i::(K++R))) w2:=by
     rw[←e3,←e1,←e2];exact a5K
    have uz:(i::(K++R)).Perm (nA all.length m cons (listed.setIfInBounds i true)):=by
     have a5M:∀j,ss all.length cons (listed.setIfInBounds i true) j=true↔j∈C∨ss all.length cons listed j=true:=by
      intro j;unfold ss;rw[List.any_eq_true,List.any_eq_true];constructor
      ·rintro⟨k,hk,h⟩;rw[Bool.and_eq_true,xO]at h;rcases h.1 with rfl|h1
       ·exact .inl (qA.1 h.2)
       ·exact .inr ⟨k,hk,by rw[h1,h.2];rfl⟩
      ·rintro(h|⟨k,hk,h⟩)
       ·exact⟨i,List.mem_range.2 FM,by rw[Bool.and_eq_true,xO];exact⟨.inl rfl,qA.2 h⟩⟩
       ·rw[Bool.and_eq_true]at h;exact⟨k,hk,by rw[Bool.and_eq_true,xO];exact⟨.inr h.1,h.2⟩⟩
     have RL:i∉nA all.length m cons listed:=by
      intro h;have:=ZC i h FM;rw[FN]at this;cases this
     have hiC:¬(i∈C∨ss all.length cons listed i=true):=by
      rintro(h|h)
      ·exact RL (J4 i (c3 i h))
      ·unfold ss at h;rw[List.any_eq_true]at h;obtain⟨k,hk,h⟩:=h;rw[Bool.and_eq_true]at h;obtain⟨_,d2,d3,_,_⟩:=RH k (List.mem_range.1 hk);have N0:=d3 i (qA.1 h.2);exact MY k h.1 ((d2 i N0).2.1 FM)
     rw[List.perm_ext_iff_of_nodup]
     ·intro j;have r8:j∈nA all.length m cons (listed.setIfInBounds i true)↔j<all.length+m∧((¬j<all.length)∨j=i∨gG listed j=true)∧¬(j∈C∨ss all.length cons listed j=true):=by
       unfold nA;rw[List.mem_filter,List.mem_range,Bool.and_eq_true,Bool.or_eq_true,xO,nt,nt,a5M,Zp]
      have RM:j∈nA all.length m cons listed↔j<all.length+m∧((¬j<all.length)∨gG listed j=true)∧¬(ss all.length cons listed j=true):=by
       unfold nA;rw[List.mem_filter,List.mem_range,Bool.and_eq_true,Bool.or_eq_true,nt,nt,Zp]
      rw[r8,List.mem_cons,List.mem_append,List.mem_filter,List.mem_filter];have ZE:∀(l:List Nat),(!(ic l j))=true↔j∉l:=λl=>by
       rw[Bool.not_eq_true',←qA (l:=l)];simp
      rw[ZE,ZE];constructor
      ·rintro(rfl|⟨h1,h2⟩|⟨h1,h2⟩)
       ·exact⟨by omega,.inr (.inl rfl),hiC⟩
       ·obtain⟨p1,p2,p3⟩:=RM.1 (J4 j h1);refine⟨p1,p2.imp_right .inr,?_⟩;rintro(h|h)
        ·exact h2 h
        ·exact p3 h
       ·obtain⟨p1,p2,p3⟩:=RM.1 h1;refine⟨p1,p2.imp_right .inr,?_⟩;rintro(h|h)
        ·exact h2 (c3 j h)
        ·exact p3 h
      ·rintro⟨p1,p2,p3⟩;by_cases e:j=i
       ·exact .inl e
       ·right;have QY:j∈nA all.length m cons listed:=RM.2 ⟨p1,p2.imp_right λh=>h.resolve_left e,λh=>p3 (.inr h)⟩;by_cases hu:j∈U
        ·exact .inl ⟨hu,λh=>p3 (.inl h)⟩
        ·exact .inr ⟨QY,hu⟩
     ·rw[List.nodup_cons,List.nodup_append];refine⟨λh=>?_,J1 _ c1,J1 _ RJ,λx hx z hz e=>?_⟩
      ·rw[List.mem_append,List.mem_filter,List.mem_filter]at h;rcases h with h|h
       ·exact RL (J4 i h.1)
       ·exact RL h.1
      ·subst e;rw[List.mem_filter]at hx hz;rw[qA.2 hx.1]at hz;cases hz.2
     ·exact J1 _ List.nodup_range
    refine ih (listed.setIfInBounds i true) (a'.put (dM all i) v) w2 (dK y i g) ⟨by simp[hI.size],?_,?_,?_,a5L.perm (Zo uz),?_⟩ ?_
    ·cases J5:dM all i with
     |none=>exact hI.fr
     |some d=>
      obtain⟨hdn,IK⟩:=Zx d J5;have h1:aw [] n (nW base d [] v) (a'.put (some d) v):=aw.set (H:=hI.fr) hdn;refine⟨h1.1,h1.2.1,λe he=>?_⟩;have Rr:=a5I e he;have iJ:=IK e he;have h2:=hI.fr.2.2 e he;rw[Rr]at h2⊢;refine⟨λ_=>?_,λx=>absurd (eT _) x⟩;rw[Fq iJ];exact h2.1 (eT _)
    ·intro j hj d wx;rcases(xO j).1 hj with e1|z1
     ·subst e1;have kQ:d<a'.tmps.size:=by
       have h1:=hI.fr.2.1;have:d<n:=by simpa[Nat.blt,Nat.lt_iff_add_one_le]using(Zx d wx).1
       omega
      rw[hv d wx,wx];simp[Act.put,kQ]
     ·have iJ:j≠i:=λe=>by subst e;rw[FN]at z1;cases z1
      have ZF:=hI.did j z1 d wx;rw[(Zr y i g j (ZA j z1) (ZB j z1)).1];cases J5:dM all i with
      |none=>exact ZF
      |some d2=>
       rw[Fq (a5G j i d d2 iJ wx J5)];exact ZF
    ·intro j oj hj RN e he hb;rcases(xO j).1 hj with e1|z1
     ·subst e1;rw[MW]at RN;cases RN;exact(xO _).2 (.inr (r7.2 (Zy e he hb)))
     ·exact(xO _).2 (.inr (hI.cl j oj z1 RN e he hb))
    ·intro k e he hl;have iJ:e.2.1≠i∧gG listed e.2.1=false:=by
      refine⟨λh=>?_,?_⟩
      ·rw[h,(xO i).2 (.inl rfl)]at hl;cases hl
      ·cases hb:gG listed e.2.1 with
       |false=>rfl
       |true=>rw[(xO _).2 (.inr hb)]at hl;cases hl
     have h0:=hI.od k e he iJ.2;have h1:=(List.all_eq_true.1 oE) e (List.mem_of_getElem? he);rw[Bool.and_eq_true]at h1;have h2:=(List.all_eq_true.1 h1.2) i (List.mem_range.2 FM);rw[Bool.or_eq_true]at h2;have h3:¬dM all i=some e.1:=by
      rcases h2 with h2|h2
      ·exact absurd (Nat.eq_of_beq_eq_true h2).symm iJ.1
      ·simpa using h2
     cases J5:dM all i with
     |none=>exact h0
     |some d=>
      rw[Fq (λh=>h3 (by rw[J5,h]))];exact h0
    ·rw[Array.toList_setIfInBounds,List.count_set (by simpa using dJ)];simp[Zw,hc]
   have ZG:=hA.get i (by omega) (by omega);rw[MW]at ZG;unfold wpOp;rw[ho];rcases ZG with FO|⟨N1,J6⟩
   ·replace FO:J2 all bU ress use cG i o.guard:=FO;have RO:Region.wanted o (yielded all.toArray a'.tmps)=false∧(∀y,(bU y).getD i undef=undef∧(ress y).getD i []=[])∧U=[]:=by
     cases B6:o.guard with
     |none=>rw[B6]at FO;exact FO.elim
     |some jb=>
      obtain⟨j,b⟩:=jb;rw[B6]at FO;obtain⟨g1,g2,g3,g4⟩:=FO;rw[Bool.and_eq_true,Bool.and_eq_true,Bool.not_eq_true']at g1;have hj:j∈cG.getD i []:=qA.1 g1.1.1;have J7:j≠i:=Nat.ne_of_beq_eq_false g1.1.2;obtain⟨d,wx⟩:=Option.isSome_iff_exists.1 g1.2;have h1:=hI.did j (MX j ((c4 j hj).resolve_left J7)) d wx;refine⟨?_,g3,g4⟩;have h0:((all.toArray[j]?).bind (·.dst))=some d:=by simpa[dM]using wx
      rcases g2 with g2|g2
      ·rw[g2 y]at h1;have h2:yielded all.toArray a'.tmps j=some (!b):=by
        unfold yielded;rw[h0];simp only[Option.bind_some,h1]
       simp[Region.wanted,B6,h2]
      ·rw[g2 y]at h1;have h2:yielded all.toArray a'.tmps j=none:=by
        unfold yielded;rw[h0];simp only[Option.bind_some,h1,undef]
       simp[Region.wanted,B6,h2]
    obtain⟨RO,ZH,hU⟩:=RO;simp only[RO,if_false,Bool.false_eq_true];rw[hd];refine fin undef w' (y i) (λd _=>(ZH _).1.symm) ?_;rw[(ZH _).2,hU];rw[hU]at hh;exact hh
   ·have hw:Region.wanted o (yielded all.toArray a'.tmps)=true:=by
     replace N1:tN all bU cG i o.guard:=N1;cases B6:o.guard with
     |none=>simp[Region.wanted,B6]
     |some jb=>
      obtain⟨j,b⟩:=jb;rw[B6]at N1;obtain⟨g1,g2⟩:=N1;rw[Bool.and_eq_true,Bool.and_eq_true,Bool.not_eq_true']at g1;have hj:j∈cG.getD i []:=qA.1 g1.1.1;have J7:j≠i:=Nat.ne_of_beq_eq_false g1.1.2;obtain⟨d,wx⟩:=Option.isSome_iff_exists.1 g1.2;have h1:=hI.did j (MX j ((c4 j hj).resolve_left J7)) d wx;rw[g2 y]at h1;have h2:yielded all.toArray a'.tmps j=some b:=by
       unfold yielded;rw[show((all.toArray[j]?).bind (·.dst))=some d from by simpa[dM]using wx];simp only[Option.bind_some,h1]
      simp[Region.wanted,B6,h2]
    simp only[hw,if_true];left;have lT:=J6 o rfl a' w' y _ hI.fr (λj hj J7=>hI.did j (MX j ((c4 j hj).resolve_left J7))) a5J hh;obtain⟨aje,op0,ty0,ajf,ajg,ajh⟩:=o;refine lT Q _ ?_;rintro v w2 ⟨g,hv,wv⟩;rw[hd];exact fin v w2 g hv wv
 have hl0:cO all.length ress L (λ_ _=>.nil) (nA all.length m cons (Array.replicate all.toArray.size false))=L:=by
  have J8:∀k,gG (Array.replicate all.toArray.size false) k=false:=by
   intro k;cases hb:gG (Array.replicate all.toArray.size false) k with
   |false=>rfl
   |true=>
    rw[r7,Array.getElem?_replicate]at hb;split at hb<;>cases hb
  have h1:nA all.length m cons (Array.replicate all.toArray.size false)=(List.range m).map (all.length+·):=by
   unfold nA;have hu:∀j,ss all.length cons (Array.replicate all.toArray.size false) j=false:=by
    intro j;unfold ss;rw[List.any_eq_false];intro k _;rw[J8];simp
   rw[List.range_add,List.filter_append];have p1:(List.range all.length).filter (λj=>(!(Nat.blt j all.length)||gG (Array.replicate all.toArray.size false) j)&&!(ss all.length cons (Array.replicate all.toArray.size false) j))=[]:=by
    rw[List.filter_eq_nil_iff];intro j hj;have:Nat.blt j all.length=true:=by simpa[Nat.blt,Nat.lt_iff_add_one_le]using List.mem_range.1 hj
    rw[this,J8];simp
   rw[p1,List.nil_append,List.filter_eq_self];intro j hj;obtain⟨k,_,rfl⟩:=List.mem_map.1 hj;have:Nat.blt (all.length+k) all.length=false:=by
    cases hb:Nat.blt (all.length+k) all.length with
    |false=>rfl
    |true=>
     have:all.length+k<all.length:=by simpa[Nat.blt,Nat.lt_iff_add_one_le]using hb
     omega
   rw[this,hu];rfl
  rw[h1];have h2:∀(q:List Nat),cO all.length ress L (λ_ _=>.nil) (q.map (all.length+·))=q.map λk=>L.getD k .none:=by
   intro q
   induction q with
   |nil=>rfl
   |cons k r ih=>
    have:Nat.blt (all.length+k) all.length=false:=by
     cases hb:Nat.blt (all.length+k) all.length with
     |false=>rfl
     |true=>
      have:all.length+k<all.length:=by simpa[Nat.blt,Nat.lt_iff_add_one_le]using hb
      omega
    simp only[List.map_cons,cO,this,cond_false,ih,Nat.add_sub_cancel_left];rfl
  rw[h2,←hL];apply List.ext_getElem
  ·simp
  ·intro i h1 h2;simp at h1;simp[h1]
 have J8:∀k,gG (Array.replicate all.toArray.size false) k=true→False:=by
  intro k hb;rw[r7,Array.getElem?_replicate]at hb;split at hb<;>cases hb
 refine key all.length (Array.replicate all.toArray.size false) a _ (λ_ _=>.nil) ⟨by simp,H,λi hi=>(J8 i hi).elim,λi o hi=>(J8 i hi).elim,?_,λk e he _=>hold k e he⟩ (by simp);rw[hl0];exact hS.below ⟨rfl,rfl,rfl,Nat.le_refl _,λ_ _=>rfl⟩
theorem a5N{P:Program}{n id:Nat}{all:List Oper}{Q:Exit→Act→World→Prop}{a:Act}{w wE:World}{base:SF}{M:Av}{X:List Nat}{L:List a8}(N m:Nat)(bU:Gm→List Value)(ress:Gm→List (List a8))(use cons cG:List (List Nat))(ei:List (Nat×Nat×Value))
  (H:aw [] n base a)(hold:∀(k:Nat) e,ei[k]?=some e→a.tmps[e.1]?=some e.2.2)(oE:yZ N all ei=true)(hS:SH M X wE L w)(hm:P.follows .mixedOrders=true)(hN:all.length=N)(hL:L.length=m)(j4:r6 n base all=true)(kR:xJ all=true)(pP:xN N m all use cons cG=true)(zb:gE N 0 λi=>tN all bU cG i ((all[i]?).bind (·.guard)))
  (wu:gE N 0 λj=>∀(y:Gm)(i:Nat)(g:Nat→Gh),i∉cG.getD j []→(bU (dK y i g)).getD j undef=(bU y).getD j undef∧(ress (dK y i g)).getD j []=(ress y).getD j [])
  (zd:gE N 0 λi=>∀o,all[i]?=some o→∀a' w' y M',aw [] n base a'→(∀j∈cG.getD i [],j≠i→∀d,dM all j=some d→a'.tmps[d]?=some ((bU y).getD j undef))→(∀(k:Nat) e,ei[k]?=some e→(Nat.beq e.2.1 i||reach all N e.2.1 i)=true→a'.tmps[e.1]?=some e.2.2)→S0 M' (cO N ress L y (use.getD i [])) w'→
   bh P (tM o) a' w' λv w2=>∃g:Nat→Gh,(∀d,dM all i=some d→v=(bU (dK y i g)).getD i undef)∧SH M' (ay (cO N ress L y (use.getD i []))) w' ((ress (dK y i g)).getD i []++cO N ress L y ((use.getD i []).filter λj=>!(ic (cons.getD i []) j))) w2)
  (hK:∀a' w' y,aw [] n base a'→(∀i d,dM all i=some d→a'.tmps[d]?=some ((bU y).getD i undef))→SH M X wE (cO N ress L y (uF N m cons)) w'→Q .normal a' w'):
  (Code.region id all.toArray true).wp P Q a w:=
  Zq N m bU ress use cons cG ei H hold oE hS hm hN hL j4 kR pP wu ((zb.and zd).imp λ_ h=>.inr h) hK
theorem a5O{y:Gm}{g:Nat→Gh}{i k:Nat}{l:List Nat}(hi:i∉l)(hk:ic l k=true):dK y i g k=y k:=a5D y g λe=>hi (e▸qA.1 hk)
def Di(ks:List Nat)(y:Gm):Gm:=λk=>cond (ic ks k) (y k) (λ_=>.nil)
theorem ZI{P:Program}{n id:Nat}{all:List Oper}{a:Act}{w wE:World}{base:SF}{M:Av}{X:List Nat}{L:List a8}{N' R':dY}{ES:List (Nat×dY)}(N m:Nat)(bU:Gm→List Value)(ress:Gm→List (List a8))(use cons cG:List (List Nat))(ei:List (Nat×Nat×Value))
  (H:aw [] n base a)(hold:∀(k:Nat) e,ei[k]?=some e→a.tmps[e.1]?=some e.2.2)(oE:yZ N all ei=true)(hS:SH M X wE L w)(hm:P.follows .mixedOrders=true)(hN:all.length=N)(hL:L.length=m)(j4:r6 n base all=true)(kR:xJ all=true)(pP:xN N m all use cons cG=true)(zb:gE N 0 λi=>tN all bU cG i ((all[i]?).bind (·.guard)))
  (wu:gE N 0 λj=>∀(y:Gm)(i:Nat)(g:Nat→Gh),i∉cG.getD j []→(bU (dK y i g)).getD j undef=(bU y).getD j undef∧(ress (dK y i g)).getD j []=(ress y).getD j [])
  (zd:gE N 0 λi=>∀o,all[i]?=some o→∀a' w' y M',aw [] n base a'→(∀j∈cG.getD i [],j≠i→∀d,dM all j=some d→a'.tmps[d]?=some ((bU y).getD j undef))→(∀(k:Nat) e,ei[k]?=some e→(Nat.beq e.2.1 i||reach all N e.2.1 i)=true→a'.tmps[e.1]?=some e.2.2)→S0 M' (cO N ress L y (use.getD i [])) w'→
   bh P (tM o) a' w' λv w2=>∃g:Nat→Gh,(∀d,dM all i=some d→v=(bU (dK y i g)).getD i undef)∧SH M' (ay (cO N ress L y (use.getD i []))) w' ((ress (dK y i g)).getD i []++cO N ress L y ((use.getD i []).filter λj=>!(ic (cons.getD i []) j))) w2)
  (hK:∀a' w' y,aw [] n base a'→(∀i d,dM all i=some d→a'.tmps[d]?=some ((bU y).getD i undef))→SH M X wE (cO N ress L y (uF N m cons)) w'→N' a' w'):(Code.region id all.toArray true).wp P (Qs N' ES R') a w:=a5N N m bU ress use cons cG ei H hold oE hS hm hN hL j4 kR pP zb wu zd hK
theorem a5P{P:Program}{n id:Nat}{all:List Oper}{a:Act}{w wE:World}{base:SF}{M:Av}{X:List Nat}{L:List a8}{N' R':dY}{ES:List (Nat×dY)}{z:Code}(N m:Nat)(bU:Gm→List Value)(ress:Gm→List (List a8))(use cons cG:List (List Nat))(ei:List (Nat×Nat×Value))
  (H:aw [] n base a)(hold:∀(k:Nat) e,ei[k]?=some e→a.tmps[e.1]?=some e.2.2)(oE:yZ N all ei=true)(hS:SH M X wE L w)(hm:P.follows .mixedOrders=true)(hN:all.length=N)(hL:L.length=m)(j4:r6 n base all=true)(kR:xJ all=true)(pP:xN N m all use cons cG=true)(zb:gE N 0 λi=>tN all bU cG i ((all[i]?).bind (·.guard)))
  (wu:gE N 0 λj=>∀(y:Gm)(i:Nat)(g:Nat→Gh),i∉cG.getD j []→(bU (dK y i g)).getD j undef=(bU y).getD j undef∧(ress (dK y i g)).getD j []=(ress y).getD j [])
  (zd:gE N 0 λi=>∀o,all[i]?=some o→∀a' w' y M',aw [] n base a'→(∀j∈cG.getD i [],j≠i→∀d,dM all j=some d→a'.tmps[d]?=some ((bU y).getD j undef))→(∀(k:Nat) e,ei[k]?=some e→(Nat.beq e.2.1 i||reach all N e.2.1 i)=true→a'.tmps[e.1]?=some e.2.2)→S0 M' (cO N ress L y (use.getD i [])) w'→
   bh P (tM o) a' w' λv w2=>∃g:Nat→Gh,(∀d,dM all i=some d→v=(bU (dK y i g)).getD i undef)∧SH M' (ay (cO N ress L y (use.getD i []))) w' ((ress (dK y i g)).getD i []++cO N ress L y ((use.getD i []).filter λj=>!(ic (cons.getD i []) j))) w2)
  (hK:∀a' w' y,aw [] n base a'→(∀i d,dM all i=some d→a'.tmps[d]?=some ((bU y).getD i undef))→SH M X wE (cO N ress L y (uF N m cons)) w'→z.wp P (Qs N' ES R') a' w'):(Code.seq (.region id all.toArray true) z).wp P (Qs N' ES R') a w:=AW (ZI N m bU ress use cons cG ei H hold oE hS hm hN hL j4 kR pP zb wu zd hK)
theorem a5Q{P:Program}{n id:Nat}{all:List Oper}{a:Act}{w wE:World}{base:SF}{M:Av}{X:List Nat}{L:List a8}{N' R':dY}{ES:List (Nat×dY)}(N m:Nat)(bU:Gm→List Value)(ress:Gm→List (List a8))(use cons cG:List (List Nat))(ei:List (Nat×Nat×Value))
  (H:aw [] n base a)(hold:∀(k:Nat) e,ei[k]?=some e→a.tmps[e.1]?=some e.2.2)(oE:yZ N all ei=true)(hS:SH M X wE L w)(hm:P.follows .mixedOrders=true)(hN:all.length=N)(hL:L.length=m)(j4:r6 n base all=true)(kR:xJ all=true)(pP:xN N m all use cons cG=true)
  (wu:gE N 0 λj=>∀(y:Gm)(i:Nat)(g:Nat→Gh),i∉cG.getD j []→(bU (dK y i g)).getD j undef=(bU y).getD j undef∧(ress (dK y i g)).getD j []=(ress y).getD j [])
  (hA:gE N 0 λi=>J2 all bU ress use cG i ((all[i]?).bind (·.guard))∨(tN all bU cG i ((all[i]?).bind (·.guard))∧∀o,all[i]?=some o→∀a' w' y M',aw [] n base a'→(∀j∈cG.getD i [],j≠i→∀d,dM all j=some d→a'.tmps[d]?=some ((bU y).getD j undef))→(∀(k:Nat) e,ei[k]?=some e→(Nat.beq e.2.1 i||reach all N e.2.1 i)=true→a'.tmps[e.1]?=some e.2.2)→S0 M' (cO N ress L y (use.getD i [])) w'→
   bh P (tM o) a' w' λv w2=>∃g:Nat→Gh,(∀d,dM all i=some d→v=(bU (dK y i g)).getD i undef)∧SH M' (ay (cO N ress L y (use.getD i []))) w' ((ress (dK y i g)).getD i []++cO N ress L y ((use.getD i []).filter λj=>!(ic (cons.getD i []) j))) w2))
  (hK:∀a' w' y,aw [] n base a'→(∀i d,dM all i=some d→a'.tmps[d]?=some ((bU y).getD i undef))→SH M X wE (cO N ress L y (uF N m cons)) w'→N' a' w'):(Code.region id all.toArray true).wp P (Qs N' ES R') a w:=Zq N m bU ress use cons cG ei H hold oE hS hm hN hL j4 kR pP wu hA hK
theorem a5R{P:Program}{n id:Nat}{all:List Oper}{a:Act}{w wE:World}{base:SF}{M:Av}{X:List Nat}{L:List a8}{N' R':dY}{ES:List (Nat×dY)}{z:Code}(N m:Nat)(bU:Gm→List Value)(ress:Gm→List (List a8))(use cons cG:List (List Nat))(ei:List (Nat×Nat×Value))
  (H:aw [] n base a)(hold:∀(k:Nat) e,ei[k]?=some e→a.tmps[e.1]?=some e.2.2)(oE:yZ N all ei=true)(hS:SH M X wE L w)(hm:P.follows .mixedOrders=true)(hN:all.length=N)(hL:L.length=m)(j4:r6 n base all=true)(kR:xJ all=true)(pP:xN N m all use cons cG=true)
  (wu:gE N 0 λj=>∀(y:Gm)(i:Nat)(g:Nat→Gh),i∉cG.getD j []→(bU (dK y i g)).getD j undef=(bU y).getD j undef∧(ress (dK y i g)).getD j []=(ress y).getD j [])
  (hA:gE N 0 λi=>J2 all bU ress use cG i ((all[i]?).bind (·.guard))∨(tN all bU cG i ((all[i]?).bind (·.guard))∧∀o,all[i]?=some o→∀a' w' y M',aw [] n base a'→(∀j∈cG.getD i [],j≠i→∀d,dM all j=some d→a'.tmps[d]?=some ((bU y).getD j undef))→(∀(k:Nat) e,ei[k]?=some e→(Nat.beq e.2.1 i||reach all N e.2.1 i)=true→a'.tmps[e.1]?=some e.2.2)→S0 M' (cO N ress L y (use.getD i [])) w'→
   bh P (tM o) a' w' λv w2=>∃g:Nat→Gh,(∀d,dM all i=some d→v=(bU (dK y i g)).getD i undef)∧SH M' (ay (cO N ress L y (use.getD i []))) w' ((ress (dK y i g)).getD i []++cO N ress L y ((use.getD i []).filter λj=>!(ic (cons.getD i []) j))) w2))
  (hK:∀a' w' y,aw [] n base a'→(∀i d,dM all i=some d→a'.tmps[d]?=some ((bU y).getD i undef))→SH M X wE (cO N ress L y (uF N m cons)) w'→z.wp P (Qs N' ES R') a' w'):(Code.seq (.region id all.toArray true) z).wp P (Qs N' ES R') a w:=AW (a5Q N m bU ress use cons cG ei H hold oE hS hm hN hL j4 kR pP wu hA hK)
def RP{H:Type}(P:Program)(W:World)(enc:TypeId×Value→H)(t:TypeId){α:Type}(T:Ty α)(wf:α→Prop):Prop:=
 ∀(n:Nat)(cs:List Value) x,DataW.trod enc P W 0 (λ_=>true) true n t cs=some x→∃(v:α)(g:Nat→Gh),cs=T.enc v g∧T.bK F0 W v g∧wf v
theorem ZJ{w:World}{a:Addr}{v:Value}(h:w.cell? a=some v):a.block<w.heap.size:=by
 unfold World.cell? at h;rcases Nat.lt_or_ge a.block w.heap.size with h1|h1
 ·exact h1
 ·rw[Array.getElem?_eq_none h1]at h;simp at h
theorem Addr.a5S(b o i:Nat):(⟨b,o,none⟩:Addr).add i=⟨b,o+i,none⟩:=by
 unfold Addr.add;split
 ·rename_i h;subst h;rfl
 ·rfl
theorem a5T{α:Type}{B:Type}[Nonempty B]:∀{n:Nat}(p:Nat→α→B→Prop),(∀i,i<n→∃v b,p i v b)→∃(l:List α)(s:Nat→B),∃(hl:l.length=n),∀i (h:i<n),p i (l[i]'(by omega)) (s i):=by
 intro n p h
 classical
 rcases Nat.eq_zero_or_pos n with rfl|h0
 ·exact⟨[],λ_=>Classical.choice inferInstance,rfl,λi h=>absurd h (by omega)⟩
 ·obtain⟨v0,b0,_⟩:=h 0 h0;have:Nonempty α:=⟨v0⟩;have:Nonempty B:=⟨b0⟩
  let f:Nat→α:=λi=>if hi:i<n then(h i hi).choose else v0
  let s:Nat→B:=λi=>if hi:i<n then(h i hi).choose_spec.choose else b0
  refine⟨(List.range n).map f,s,by simp,λi hi=>?_⟩;have:=(h i hi).choose_spec.choose_spec;simpa[f,s,hi]using this
section
variable {H:Type} {P:Program} {W:World} {enc:TypeId×Value→H}
theorem tP{t:TypeId}{k:IntKind}(hu:P.underlying t=some (.int k)):RP P W enc t (tI k) λv=>(Lit.int k v).wf=true:=by
 intro n cs x h;cases n with
 |zero=>simp[DataW.trod]at h
 |succ n=>
  unfold DataW.trod at h;rw[hu]at h;split at h<;>first|(rename_i he _;cases he;done)|skip
  all_goals simp_all
  all_goals first
   |(obtain⟨⟨rfl,hw⟩,_⟩:=h;exact⟨_,λ_=>.nil,rfl,trivial,hw⟩)
   |skip
theorem N2{t:TypeId}(hu:P.underlying t=some .bool):RP P W enc t tB λ_=>True:=by
 intro n cs x h;cases n with
 |zero=>simp[DataW.trod]at h
 |succ n=>
  unfold DataW.trod at h;rw[hu]at h;rcases cs with _|⟨c,_|⟨c2,r⟩⟩
  ·simp at h
  ·cases c<;>simp at h;rename_i b;exact⟨b,λ_=>.nil,rfl,trivial,trivial⟩
  ·simp at h
theorem gH{cs e r:List Value}{o k c:Nat}(hc:c=k)(h:(cs.drop o).take c=e)(h2:cs.drop (o+k)=r):cs.drop o=e++r:=by
 subst hc;rw[←List.take_append_drop c (cs.drop o),h,List.drop_drop,h2]
theorem uG{cs:List Value}{o:Nat}(h:cs.length=o):cs.drop o=[]:=List.drop_eq_nil_of_le (by omega)
end
theorem RQ{P:Program}{W:World}{name:String}{k:IntKind}{zs:List Int}{g:Nat}{t e:TypeId}{n:Nat}
  (hg:P.globalNamed name=some g)(RR:(P.globals[g]?).map (·.type)=some t)(ht:P.underlying t=some (.array n e))(he:P.underlying e=some (.int k))(IG:P.cellsOf e=1)(RS:P.cellsOf t=n)
  (hn:zs.length=n)(h:Lib.VarReads P W name (Lib.tabData k zs))(nZ:Nat.blt 0 n=true):aP (tI k) F0 W zs (Gh.mk (some ⟨g,0,none⟩) n λ_ _=>.nil):=by
 obtain⟨g',t',cs,fuel,p,xH,RT,RU,hd⟩:=h;obtain rfl:=Option.some.inj (hg.symm.trans xH);obtain rfl:=Option.some.inj (RR.symm.trans RT);have FP:Lib.TabIs P W name k zs:=by unfold Lib.TabIs;rw[RU,←Lib.cells_of_tab ht he IG RS hd]
 have hp:0<n:=by simpa[Nat.blt,Nat.lt_iff_add_one_le]using nZ
 refine⟨⟨λ_=>rfl,λ_=>?_,λ_ h=>h.elim,λi hi j v hv=>?_,Nat.le_of_eq hn⟩,λi hi=>trivial⟩
 ·exact ZJ (FP.cell hg 0 (by omega))
 ·have hj:j=0:=by
   rcases j with _|j
   ·rfl
   ·simp[tI,Ty.flat]at hv
  subst hj;have h1:v=.int k zs[i]:=by simpa[tI,Ty.flat]using hv.symm
  subst h1;have:=FP.cell hg i hi;have h2:zs.getD i 0=zs[i]:=by simp[List.getD,List.getElem?_eq_getElem hi]
  rw[h2]at this;have h3:i*(tI k).z=i:=Nat.mul_one i;show W.cell? ⟨g,0+i*(tI k).z+0,none⟩=_;rw[h3,Nat.zero_add];exact this
theorem a5U{P:Program}{f:FuncId}{args:Array Value}{v:Value}{w:World}{L:List a8}(hL:S0 F0 L w∧ay L=[])(h:S0 F0 L w→Calls P f args w λe qV=>∃u,e=.returned u∧u=v∧SH F0 (ay L) w [] qV):
  Calls P f args w (Pure v w):=by
 refine(h hL.1).mono ?_;rintro e qV ⟨u,rfl,rfl,hS⟩;refine⟨rfl,?_⟩;have:=hS.kp;rw[hL.2]at this;exact this.below
def T(D:List Deferred)(n:Nat)(M:Av)(X:List Nat)(w0:World)(l:SF)(L:List a8)(N:dY):Prop:=
 ∀a w,aw D n l a→SH M X w0 L w→N a w
def fz:List Nat→List Value→SF
 |k::ks,v::vs=>(k,[],v)::fz ks vs
 |_,_=>[]
structure Pk(S:World→Prop) where
 v:Option Value
 p:Ob
 h:∀w,S w→p w
def gp{S:World→Prop}:List (Pk S)→List Value
 |[]=>[]
 |q::r=>match q.v with
  |some v=>v::gp r
  |none=>gp r
def gr{S:World→Prop}:List (Pk S)→List Ob
 |[]=>[]
 |q::r=>q.p::gr r
theorem xP{S:World→Prop}{w:World}(h:S w):∀q:List (Pk S),sd (gr q) w
 |[]=>trivial
 |q::r=>⟨q.h w h,xP h r⟩
section
variable {S:World→Prop}
def kh{p:Prop}(h:p):Pk S:=⟨none,λ_=>p,λ_ _=>h⟩
def kc{P:Program}{f:FuncId}{args:Array Value}{v:Value}(h:AQ P f args v):Pk S:=⟨some v,λw=>kP P f args v w,λ_ _=>h.b⟩
def kr{P:Program}{f:FuncId}{args:Array Value}{v:Value}(h:∀w,S w→kP P f args v w):Pk S:=⟨some v,λw=>kP P f args v w,h⟩
def ka{b:Addr}{v:Value}(h:∀w,S w→cd b v w):Pk S:=⟨some v,cd b v,h⟩
def kn{b o:Nat}{cs:List Value}(h:∀w,S w→bV b o cs 0 w):Pk S:=⟨some (.agg ⟨cs⟩),bV b o cs 0,h⟩
def o1(c:Prop){p:Prop}(h:c→p):Pk S:=⟨none,λ_=>c→p,λ_ _=>h⟩
def fF(c:Prop){P:Program}{f:FuncId}{args:Array Value}{v:Value}(h:c→AQ P f args v):Pk S:=⟨some v,λw=>c→kP P f args v w,λ_ _ hc=>(h hc).b⟩
def fv(c:Prop){P:Program}{f:FuncId}{args:Array Value}{v:Value}(h:∀w,S w→c→kP P f args v w):Pk S:=⟨some v,λw=>c→kP P f args v w,h⟩
end
section
variable {D:List Deferred} {n:Nat} {M:Av} {X:List Nat} {w0:World} {l:SF} {L:List a8} {N R:dY} {ES:List (Nat×dY)} {P:Program} {Q:Exit→Act→World→Prop} {all:List Oper} {id:Nat}
def kb(k o:Nat){b:Nat}{cs:List Value}{v:Value}(hk:L[k]?=some (.lU b cs):=by rfl)(hv:cs[o]?=some v:=by rfl):Pk (SH M X w0 L):=⟨some v,cd ⟨b,o,none⟩ v,λ_ h=>(h.bk k hk).cd hv⟩
def ko(k o:Nat){b:Nat}{cs:List Value}{v:Value}(hk:L[k]?=some (.ro b cs):=by rfl)(hv:cs[o]?=some v:=by rfl):Pk (SH M X w0 L):=⟨some v,cd ⟨b,o,none⟩ v,λ_ h=>(h.ro k hk).cd hv⟩
def kE(k n:Nat){b:Nat}{cs:List Value}(hk:L[k]?=some (.lU b cs):=by rfl):Pk (SH M X w0 L):=⟨some (.agg ⟨cs.take n⟩),bV b 0 (cs.take n) 0,λ_ h=>(h.bk k hk).eK (by simp[List.length_take,List.take_eq_take_iff])⟩
theorem aN{a:Act}{w:World}(H:aw D n l a)(hS:SH M X w0 L w)(h:T D n M X w0 l L N):N a w:=h a w H hS
theorem dp{y:Code}(ks:List Nat)(vs:List Value)(q:List (Pk (SH M X w0 L)))(h:T D n M X w0 (fz ks vs) L λa w=>y.wp P (Qs N ES R) a w)
  (he:jl P n all (gp q) l ks=some (fz ks vs,gr q):=by kernel_rfl):T D n M X w0 l L λa w=>(Code.seq (.region id all.toArray false) y).wp P (Qs N ES R) a w:=
 λ_ _ H hS=>Fw (gp q) ks _ (gr q) H he (xP hS q) λ_ _ H' hb=>h _ _ H' (hS.below hb)
theorem r9(ks:List Nat)(vs:List Value)(q:List (Pk (SH M X w0 L)))(h:T D n M X w0 (fz ks vs) L N)
  (he:jl P n all (gp q) l ks=some (fz ks vs,gr q):=by kernel_rfl):T D n M X w0 l L λa w=>(Code.region id all.toArray false).wp P (Qs N ES R) a w:=
 λ_ _ H hS=>R9 (gp q) ks _ (gr q) H he (xP hS q) λ_ _ H' hb=>h _ _ H' (hS.below hb)
theorem mu{y:Code}(ks:List Nat)(vs:List Value)(q:List (Pk (SH M X w0 L)))(h:T D n M X w0 (fz ks vs) L λa w=>y.wp P (Qs N ES R) a w)
  (he:jl P n all (gp q) l ks=some (fz ks vs,gr q):=by kernel_rfl)(hm:P.follows .mixedOrders=true:=by kernel_rfl)(hB:Region.lexB .any all.toArray=true:=by kernel_rfl):T D n M X w0 l L λa w=>(Code.seq (.region id all.toArray true) y).wp P (Qs N ES R) a w:=
 λ_ _ H hS=>a4W (gp q) ks _ (gr q) H hm hB he (xP hS q) λ_ _ H' hb=>h _ _ H' (hS.below hb)
theorem N3(ks:List Nat)(vs:List Value)(q:List (Pk (SH M X w0 L)))(h:T D n M X w0 (fz ks vs) L N)
  (he:jl P n all (gp q) l ks=some (fz ks vs,gr q):=by kernel_rfl)(hm:P.follows .mixedOrders=true:=by kernel_rfl)(hB:Region.lexB .any all.toArray=true:=by kernel_rfl):T D n M X w0 l L λa w=>(Code.region id all.toArray true).wp P (Qs N ES R) a w:=
 λ_ _ H hS=>YE (gp q) ks _ (gr q) H hm hB he (xP hS q) λ_ _ H' hb=>h _ _ H' (hS.below hb)
theorem fG{i:Nat}(j:Nat)(ks:List Nat)(vs:List Value)(q:List (Pk (SH M X w0 L)))(h:T D n M X w0 (fz ks vs) L λa w=>wpList P all.toArray Q (all.drop j) a w)
  (he:Fy P n all i j (gp q) l ks=some (fz ks vs,gr q):=by kernel_rfl)(dL:Nat.ble i j=true:=by rfl):T D n M X w0 l L λa w=>wpList P all.toArray Q (all.drop i) a w:=
 λ_ _ H hS=>Rc i j (gp q) ks _ (gr q) H dL he (xP hS q) λ_ _ H' hb=>h _ _ H' (hS.below hb)
theorem dB(h:T D n M X w0 l L λa w=>wpList P all.toArray (Qs N ES R) (all.drop 0) a w):T D n M X w0 l L λa w=>(Code.region id all.toArray false).wp P (Qs N ES R) a w:=
 λ_ _ H hS=>YG (h _ _ H hS)
theorem aM{y:Code}(h:T D n M X w0 l L λa w=>wpList P all.toArray (Qs (λa w=>y.wp P (Qs N ES R) a w) ES R) (all.drop 0) a w):T D n M X w0 l L λa w=>(Code.seq (.region id all.toArray false) y).wp P (Qs N ES R) a w:=
 λ_ _ H hS=>AW (YG (h _ _ H hS))
theorem aC{i:Nat}(h:T D n M X w0 l L N)(hi:Nat.ble all.length i=true:=by rfl):T D n M X w0 l L λa w=>wpList P all.toArray (Qs N ES R) (all.drop i) a w:=
 λ_ _ H hS=>a50 hi (h _ _ H hS)
theorem az{x y:Code}(h:T D n M X w0 l L λa w=>x.wp P (Qs (λa w=>y.wp P (Qs N ES R) a w) ES R) a w):T D n M X w0 l L λa w=>(Code.seq x y).wp P (Qs N ES R) a w:=
 λ_ _ H hS=>AW (h _ _ H hS)
theorem aq(h:T D n M X w0 l L N):T D n M X w0 l L λa w=>Code.skip.wp P (Qs N ES R) a w:=λ_ _ H hS=>a4S (h _ _ H hS)
theorem aL{i:Nat}{c:Code}(h:T D n M X w0 l L λa w=>c.wp P (Qs N ((i,N)::ES) R) a w):T D n M X w0 l L λa w=>(Code.block i c).wp P (Qs N ES R) a w:=λ_ _ H hS=>a4V (h _ _ H hS)
theorem aQ(h:T D n M X w0 l L R):T D n M X w0 l L λa w=>Code.ret.wp P (Qs N ES R) a w:=λ_ _ H hS=>a4T (h _ _ H hS)
theorem bn{i:Nat}{E:dY}(h:T D n M X w0 l L E)(hi:D5 ES i=some E:=by rfl):T D n M X w0 l L λa w=>(Code.exit i).wp P (Qs N ES R) a w:=λ_ _ H hS=>a4U hi (h _ _ H hS)
theorem qB{c:Operand}{x y:Code}{t:Bool}(h1:t=true→T D n M X w0 l L λa w=>x.wp P (Qs N ES R) a w)(h2:t=false→T D n M X w0 l L λa w=>y.wp P (Qs N ES R) a w)(hc:ev l [] c=some (.bool t):=by rfl):
  T D n M X w0 l L λa w=>(Code.cond c x y).wp P (Qs N ES R) a w:=λ_ _ H hS=>qY H hc (λh=>h1 h _ _ H hS) (λh=>h2 h _ _ H hS)
theorem Dl{α:Type}{c:Operand}{x y:Code}{t:Bool}{p q r:α}(hm:cond t p q=r)(h1:p=r→T D n M X w0 l L λa w=>x.wp P (Qs N ES R) a w)(h2:q=r→T D n M X w0 l L λa w=>y.wp P (Qs N ES R) a w)(hc:ev l [] c=some (.bool t):=by rfl):
  T D n M X w0 l L λa w=>(Code.cond c x y).wp P (Qs N ES R) a w:=λ_ _ H hS=>qY H hc (λh=>h1 (bT h hm) _ _ H hS) (λh=>h2 (bF h hm) _ _ H hS)
theorem ZK{α:Type}{c:Operand}{x y:Code}{t:Bool}{p:Option α}{r:α}(hm:cond t p none=some r)(h1:p=some r→T D n M X w0 l L λa w=>x.wp P (Qs N ES R) a w)(hc:ev l [] c=some (.bool t):=by rfl):
  T D n M X w0 l L λa w=>(Code.cond c x y).wp P (Qs N ES R) a w:=Dl hm h1 (λh=>cN h) hc
theorem Dn{α:Type}{c:Operand}{x y:Code}{t:Bool}{q:Option α}{r:α}(hm:cond t none q=some r)(h2:q=some r→T D n M X w0 l L λa w=>y.wp P (Qs N ES R) a w)(hc:ev l [] c=some (.bool t):=by rfl):
  T D n M X w0 l L λa w=>(Code.cond c x y).wp P (Qs N ES R) a w:=Dl hm (λh=>cN h) h2 hc
theorem aB(ks:List Nat)(h:T D n M X w0 l (dV L ks) N)(hk:jZ L ks=true:=by rfl):T D n M X w0 l L N:=λ_ _ H hS=>h _ _ H (hS.aV ks hk)
theorem cR{α:Type}(E:TypeId)(Y:Ty α)(h:T D n M X w0 l (.own E Y ([]:List α) .nil::L) N):T D n M X w0 l L N:=λ_ _ H hS=>h _ _ H (hS.Db E Y)
theorem jI{α:Type}{E:TypeId}{Y:Ty α}{q:List α}{g:Gh}(ks:List Nat)(h:T D n M X w0 l (.im Y q g::(dV L ks).tail) N)(hL:dV L ks=.own E Y q g::(dV L ks).tail:=by rfl)(hk:jZ L ks=true:=by rfl):T D n M X w0 l L N:=
 λ_ _ H hS=>h _ _ H (SH.fK (by rw[←hL];exact hS.aV ks hk))
def Cu(D:List Deferred)(n:Nat)(M:Av)(X:List Nat)(w0:World)(l:SF)(L:List a8):dY:=λa w=>aw D n l a∧SH M X w0 L w
theorem t_e{l':SF}{L':List a8}(ks:List Nat)(hl:aR l ks=some l':=by kernel_rfl)(hL:L=L':=by rfl):T D n M X w0 l L (Cu D n M X w0 l' L'):=λ_ _ H hS=>⟨aw.aR H hl,by subst hL;exact hS⟩
def Cg{γ:Type}(D:List Deferred)(n:Nat)(M:Av)(X:List Nat)(w0:World)(l:γ→SF)(L:γ→List a8):dY:=λa w=>∃g,aw D n (l g) a∧SH M X w0 (L g) w
theorem ZL{γ:Type}{x y:Code}(ks:List Nat)(vs:γ→List Value)(L':γ→List a8)(h:T D n M X w0 l L λa w=>x.wp P (Qs (Cg D n M X w0 (λg=>fz ks (vs g)) L') ES R) a w)(h2:∀g,T D n M X w0 (fz ks (vs g)) (L' g) λa w=>y.wp P (Qs N ES R) a w):
  T D n M X w0 l L λa w=>(Code.seq x y).wp P (Qs N ES R) a w:=λ_ _ H hS=>di _ (h _ _ H hS) λa w ⟨g,h⟩=>h2 g a w h.1 h.2
theorem a5V{γ:Type}{l':γ→SF}{L':γ→List a8}(g:γ)(ks:List Nat)(hl:aR l ks=some (l' g):=by kernel_rfl)(hL:L=L' g:=by rfl):T D n M X w0 l L (Cg D n M X w0 l' L'):=λ_ _ H hS=>⟨g,aw.aR H hl,by rw[←hL];exact hS⟩
theorem eA{γ:Type}{i d:Nat}{o:Oper}{F:γ→Value}{E:γ→List a8}(kt rt ks:List Nat)(vs:List Value)
  (hs:∀a w,aw D n l a→S0 (dR M (dV L rt)) (dV L kt) w→bh P o a w λv w'=>∃g,v=F g∧SH (dR M (dV L rt)) (ay (dV L kt)) w (E g) w')
  (h:∀g,T D n M X w0 ((d,[],F g)::fz ks vs) (E g++dV L rt) λa w=>wpList P all.toArray Q (all.drop (i+1)) a w)
  (ho:all[i]?=some o:=by rfl)(hg:o.guard=none:=by rfl)(qZ:o.dst=some d:=by rfl)(hd:Nat.blt d n=true:=by rfl)(hk:∀v,aR (nW l d [] v) (d::ks)=some ((d,[],v)::fz ks vs):=by intro v;kernel_rfl)
  (h1:jZ L kt=true:=by rfl)(h2:sf L rt kt=true:=by rfl)(h3:jZ L rt=true:=by rfl):T D n M X w0 l L λa w=>wpList P all.toArray Q (all.drop i) a w:=
 λ_ w H hS=>gn (d::ks) _ H ho hg qZ hd (hs _ w H (hS.hand kt rt h1 h2)) hk λ_ _ _ H' ⟨g,e,hq⟩=>h g _ _ (e▸H') (hS.join kt rt h3 h2 hq)
theorem tQ{i d:Nat}{o:Oper}{v:Value}{E:List a8}(kt rt ks:List Nat)(vs:List Value)
  (hs:∀a w,aw D n l a→S0 (dR M (dV L rt)) (dV L kt) w→bh P o a w λu w'=>u=v∧SH (dR M (dV L rt)) (ay (dV L kt)) w E w')
  (h:T D n M X w0 ((d,[],v)::fz ks vs) (E++dV L rt) λa w=>wpList P all.toArray Q (all.drop (i+1)) a w)
  (ho:all[i]?=some o:=by rfl)(hg:o.guard=none:=by rfl)(qZ:o.dst=some d:=by rfl)(hd:Nat.blt d n=true:=by rfl)(hk:∀v,aR (nW l d [] v) (d::ks)=some ((d,[],v)::fz ks vs):=by intro v;kernel_rfl)
  (h1:jZ L kt=true:=by rfl)(h2:sf L rt kt=true:=by rfl)(h3:jZ L rt=true:=by rfl):T D n M X w0 l L λa w=>wpList P all.toArray Q (all.drop i) a w:=
 λ_ w H hS=>gn (d::ks) _ H ho hg qZ hd (hs _ w H (hS.hand kt rt h1 h2)) hk λ_ _ _ H' ⟨e,hq⟩=>h _ _ (e▸H') (hS.join kt rt h3 h2 hq)
theorem pn{i:Nat}{o:Oper}{E:List a8}(kt rt ks:List Nat)(vs:List Value)
  (hs:∀a w,aw D n l a→S0 (dR M (dV L rt)) (dV L kt) w→bh P o a w λ_ w'=>SH (dR M (dV L rt)) (ay (dV L kt)) w E w')
  (h:T D n M X w0 (fz ks vs) (E++dV L rt) λa w=>wpList P all.toArray Q (all.drop (i+1)) a w)
  (ho:all[i]?=some o:=by rfl)(hg:o.guard=none:=by rfl)(qZ:o.dst=none:=by rfl)(hk:aR l ks=some (fz ks vs):=by rfl)
  (h1:jZ L kt=true:=by rfl)(h2:sf L rt kt=true:=by rfl)(h3:jZ L rt=true:=by rfl):T D n M X w0 l L λa w=>wpList P all.toArray Q (all.drop i) a w:=
 λ_ w H hS=>uE ks _ H ho hg qZ (hs _ w H (hS.hand kt rt h1 h2)) hk λ_ _ H' ⟨_,hq⟩=>h _ _ H' (hS.join kt rt h3 h2 hq)
end
section
variable {D:List Deferred} {n:Nat} {M:Av} {X:List Nat} {w0:World} {l:SF} {L:List a8} {N R:dY} {ES:List (Nat×dY)} {P:Program} {Q:Exit→Act→World→Prop} {all:List Oper} {id:Nat}
end
def Dp(all:List Oper)(vs:List Value)(i:Nat):List Nat→SF
 |[]=>[]
 |j::r=>match Nat.beq j i,dM all j with
  |false,some d=>(d,[],vs.getD j undef)::Dp all vs i r
  |_,_=>Dp all vs i r
theorem N4{D:List Deferred}{n:Nat}{base:SF}{all:List Oper}{vs:List Value}{i:Nat}{a:Act}(H:aw D n base a):∀l:List Nat,(∀j∈l,j≠i→∀d,dM all j=some d→a.tmps[d]?=some (vs.getD j undef))→aw D n (Dp all vs i l++base) a
 |[],_=>H
 |j::r,h=>by
  have ih:=N4 H r λk hk=>h k (List.mem_cons_of_mem _ hk);unfold Dp;split
  ·rename_i d hj hd;exact ih.add (h j List.mem_cons_self (Nat.ne_of_beq_eq_false hj) d hd)
  ·exact ih
section
variable {P:Program} {n N:Nat} {base:SF} {all:List Oper} {bU:Gm→List Value} {ress:Gm→List (List a8)} {use cons cG:List (List Nat)} {ei:List (Nat×Nat×Value)} {L:List a8} {i j:Nat}
theorem lh(h:∀y,(bU y).getD j undef=(bU (Di (cG.getD j []) y)).getD j undef∧(ress y).getD j []=(ress (Di (cG.getD j []) y)).getD j []:=by exact λ_=>⟨rfl,rfl⟩):
  ∀(y:Gm)(i:Nat)(g:Nat→Gh),i∉cG.getD j []→(bU (dK y i g)).getD j undef=(bU y).getD j undef∧(ress (dK y i g)).getD j []=(ress y).getD j []:=by
 intro y i g hi;have e:Di (cG.getD j []) (dK y i g)=Di (cG.getD j []) y:=by
  funext k;unfold Di;cases hb:ic (cG.getD j []) k with
  |false=>rfl
  |true=>simp only[cond_true];exact a5O hi hb
 rw[(h (dK y i g)).1,(h (dK y i g)).2,e,←(h y).1,←(h y).2];exact⟨rfl,rfl⟩
def N5(bU:Gm→List Value)(ress:Gm→List (List a8))(cG:List (List Nat))(j:Nat):Prop:=∀y,(bU y).getD j undef=(bU (Di (cG.getD j []) y)).getD j undef∧(ress y).getD j []=(ress (Di (cG.getD j []) y)).getD j []
theorem RV(h:gE N 0 (N5 bU ress cG)):gE N 0 λj=>∀(y:Gm)(i:Nat)(g:Nat→Gh),i∉cG.getD j []→(bU (dK y i g)).getD j undef=(bU y).getD j undef∧(ress (dK y i g)).getD j []=(ress y).getD j []:=
 gE.imp (λ_ h=>lh h) h
def obH:List Ob→Option Ob
 |[]=>none
 |o::_=>some o
theorem se(q:∀(y:Gm)(M':Av),List (Pk λw=>S0 M' (cO N ress L y (use.getD i [])) w))
  (he:∀(y:Gm)(M':Av),(all[i]?).bind (λo=>AV P (Dp all (bU y) i (cG.getD i [])++base) [] o.op (gp (q y M')))=some ⟨(bU (dK y i (gL []))).getD i undef,[],obH (gr (q y M'))⟩:=by intros;kernel_rfl)
  (hr:∀y,(ress y).getD i []=[]:=by exact λ_=>rfl)(hc:((use.getD i []).filter λj=>!(ic (cons.getD i []) j))=use.getD i []:=by rfl):
  ∀o,all[i]?=some o→∀a' w' y M',aw [] n base a'→(∀j∈cG.getD i [],j≠i→∀d,dM all j=some d→a'.tmps[d]?=some ((bU y).getD j undef))→(∀(k:Nat) e,ei[k]?=some e→(Nat.beq e.2.1 i||reach all N e.2.1 i)=true→a'.tmps[e.1]?=some e.2.2)→S0 M' (cO N ress L y (use.getD i [])) w'→
   bh P (tM o) a' w' λv w2=>∃g:Nat→Gh,(∀d,dM all i=some d→v=(bU (dK y i g)).getD i undef)∧SH M' (ay (cO N ress L y (use.getD i []))) w' ((ress (dK y i g)).getD i []++cO N ress L y ((use.getD i []).filter λj=>!(ic (cons.getD i []) j))) w2:=by
 intro o ho a' w' y M' Hb hv _ hS;have h:=he y M';rw[ho,Option.bind_some]at h;obtain⟨d,op,ty,pos,after,gd⟩:=o;refine bh.mono (oC (o:=⟨d,op,ty,pos,after,none⟩) (gp (q y M')) _ _ [] (N4 Hb _ hv) rfl h λob e=>?_) λv w2 hq=>⟨gL [],λ_ _=>hq.1,?_⟩
 ·have h1:=xP hS (q y M');cases hp:gr (q y M')with
  |nil=>rw[hp]at e;cases e
  |cons x r=>rw[hp]at e h1;cases e;exact h1.1
 ·rw[hr,hc,List.nil_append];exact hS.below hq.2.below
theorem bz(he:∀(y:Gm),(all[i]?).bind (λo=>AV P (Dp all (bU y) i (cG.getD i [])++base) [] o.op [])=some ⟨(bU (dK y i (gL []))).getD i undef,[],none⟩:=by intros;kernel_rfl)
  (hr:∀y,(ress y).getD i []=[]:=by exact λ_=>rfl)(hc:((use.getD i []).filter λj=>!(ic (cons.getD i []) j))=use.getD i []:=by rfl):
  ∀o,all[i]?=some o→∀a' w' y M',aw [] n base a'→(∀j∈cG.getD i [],j≠i→∀d,dM all j=some d→a'.tmps[d]?=some ((bU y).getD j undef))→(∀(k:Nat) e,ei[k]?=some e→(Nat.beq e.2.1 i||reach all N e.2.1 i)=true→a'.tmps[e.1]?=some e.2.2)→S0 M' (cO N ress L y (use.getD i [])) w'→
   bh P (tM o) a' w' λv w2=>∃g:Nat→Gh,(∀d,dM all i=some d→v=(bU (dK y i g)).getD i undef)∧SH M' (ay (cO N ress L y (use.getD i []))) w' ((ress (dK y i g)).getD i []++cO N ress L y ((use.getD i []).filter λj=>!(ic (cons.getD i []) j))) w2:=
 se (λ_ _=>[]) (λy _=>he y) hr hc
end
theorem Dq{P:Program}{n id:Nat}{all:List Oper}{a:Act}{w wE:World}{base:SF}{M:Av}{X:List Nat}{L:List a8}{N' R':dY}{ES:List (Nat×dY)}(N m:Nat)(bU:Gm→List Value)(ress:Gm→List (List a8))(use cons cG:List (List Nat))(ei:List (Nat×Nat×Value))
  (H:aw [] n base a)(hold:∀(k:Nat) e,ei[k]?=some e→a.tmps[e.1]?=some e.2.2)(oE:yZ N all ei=true)(hS:SH M X wE L w)(hm:P.follows .mixedOrders=true)(hN:all.length=N)(hL:L.length=m)(j4:r6 n base all=true)(kR:xJ all=true)(pP:xN N m all use cons cG=true)(zb:gE N 0 λi=>tN all bU cG i ((all[i]?).bind (·.guard)))
  (zd:gE N 0 λi=>∀o,all[i]?=some o→∀a' w' y M',aw [] n base a'→(∀j∈cG.getD i [],j≠i→∀d,dM all j=some d→a'.tmps[d]?=some ((bU y).getD j undef))→(∀(k:Nat) e,ei[k]?=some e→(Nat.beq e.2.1 i||reach all N e.2.1 i)=true→a'.tmps[e.1]?=some e.2.2)→S0 M' (cO N ress L y (use.getD i [])) w'→
   bh P (tM o) a' w' λv w2=>∃g:Nat→Gh,(∀d,dM all i=some d→v=(bU (dK y i g)).getD i undef)∧SH M' (ay (cO N ress L y (use.getD i []))) w' ((ress (dK y i g)).getD i []++cO N ress L y ((use.getD i []).filter λj=>!(ic (cons.getD i []) j))) w2)
  (hK:∀a' w' y,aw [] n base a'→(∀i d,dM all i=some d→a'.tmps[d]?=some ((bU y).getD i undef))→SH M X wE (cO N ress L y (uF N m cons)) w'→N' a' w')(hl:gE N 0 (N5 bU ress cG):=by repeat (first|exact trivial|refine And.intro (λ_=>⟨rfl,rfl⟩) ?_)):(Code.region id all.toArray true).wp P (Qs N' ES R') a w:=
 ZI N m bU ress use cons cG ei H hold oE hS hm hN hL j4 kR pP zb (RV hl) zd hK
theorem ra{P:Program}{n id:Nat}{all:List Oper}{a:Act}{w wE:World}{base:SF}{M:Av}{X:List Nat}{L:List a8}{N' R':dY}{ES:List (Nat×dY)}{z:Code}(N m:Nat)(bU:Gm→List Value)(ress:Gm→List (List a8))(use cons cG:List (List Nat))(ei:List (Nat×Nat×Value))
  (H:aw [] n base a)(hold:∀(k:Nat) e,ei[k]?=some e→a.tmps[e.1]?=some e.2.2)(oE:yZ N all ei=true)(hS:SH M X wE L w)(hm:P.follows .mixedOrders=true)(hN:all.length=N)(hL:L.length=m)(j4:r6 n base all=true)(kR:xJ all=true)(pP:xN N m all use cons cG=true)(zb:gE N 0 λi=>tN all bU cG i ((all[i]?).bind (·.guard)))
  (zd:gE N 0 λi=>∀o,all[i]?=some o→∀a' w' y M',aw [] n base a'→(∀j∈cG.getD i [],j≠i→∀d,dM all j=some d→a'.tmps[d]?=some ((bU y).getD j undef))→(∀(k:Nat) e,ei[k]?=some e→(Nat.beq e.2.1 i||reach all N e.2.1 i)=true→a'.tmps[e.1]?=some e.2.2)→S0 M' (cO N ress L y (use.getD i [])) w'→
   bh P (tM o) a' w' λv w2=>∃g:Nat→Gh,(∀d,dM all i=some d→v=(bU (dK y i g)).getD i undef)∧SH M' (ay (cO N ress L y (use.getD i []))) w' ((ress (dK y i g)).getD i []++cO N ress L y ((use.getD i []).filter λj=>!(ic (cons.getD i []) j))) w2)
  (hK:∀a' w' y,aw [] n base a'→(∀i d,dM all i=some d→a'.tmps[d]?=some ((bU y).getD i undef))→SH M X wE (cO N ress L y (uF N m cons)) w'→z.wp P (Qs N' ES R') a' w')(hl:gE N 0 (N5 bU ress cG):=by repeat (first|exact trivial|refine And.intro (λ_=>⟨rfl,rfl⟩) ?_)):(Code.seq (.region id all.toArray true) z).wp P (Qs N' ES R') a w:=
 a5P N m bU ress use cons cG ei H hold oE hS hm hN hL j4 kR pP zb (RV hl) zd hK
theorem a5W{P:Program}{n id:Nat}{all:List Oper}{a:Act}{w wE:World}{base:SF}{M:Av}{X:List Nat}{L:List a8}{N' R':dY}{ES:List (Nat×dY)}{z:Code}(N m:Nat)(bU:Gm→List Value)(ress:Gm→List (List a8))(use cons cG:List (List Nat))(ei:List (Nat×Nat×Value))
  (H:aw [] n base a)(hold:∀(k:Nat) e,ei[k]?=some e→a.tmps[e.1]?=some e.2.2)(oE:yZ N all ei=true)(hS:SH M X wE L w)(hm:P.follows .mixedOrders=true)(hN:all.length=N)(hL:L.length=m)(j4:r6 n base all=true)(kR:xJ all=true)(pP:xN N m all use cons cG=true)
  (hA:gE N 0 λi=>J2 all bU ress use cG i ((all[i]?).bind (·.guard))∨(tN all bU cG i ((all[i]?).bind (·.guard))∧∀o,all[i]?=some o→∀a' w' y M',aw [] n base a'→(∀j∈cG.getD i [],j≠i→∀d,dM all j=some d→a'.tmps[d]?=some ((bU y).getD j undef))→(∀(k:Nat) e,ei[k]?=some e→(Nat.beq e.2.1 i||reach all N e.2.1 i)=true→a'.tmps[e.1]?=some e.2.2)→S0 M' (cO N ress L y (use.getD i [])) w'→
   bh P (tM o) a' w' λv w2=>∃g:Nat→Gh,(∀d,dM all i=some d→v=(bU (dK y i g)).getD i undef)∧SH M' (ay (cO N ress L y (use.getD i []))) w' ((ress (dK y i g)).getD i []++cO N ress L y ((use.getD i []).filter λj=>!(ic (cons.getD i []) j))) w2))
  (hK:∀a' w' y,aw [] n base a'→(∀i d,dM all i=some d→a'.tmps[d]?=some ((bU y).getD i undef))→SH M X wE (cO N ress L y (uF N m cons)) w'→z.wp P (Qs N' ES R') a' w')(hl:gE N 0 (N5 bU ress cG):=by repeat (first|exact trivial|refine And.intro (λ_=>⟨rfl,rfl⟩) ?_)):(Code.seq (.region id all.toArray true) z).wp P (Qs N' ES R') a w:=
 a5R N m bU ress use cons cG ei H hold oE hS hm hN hL j4 kR pP (RV hl) hA hK
section
variable {M:Av} {X:List Nat} {w0:World} {L:List a8}
def ki(k:Nat){α:Type}{Y:Ty α}{q:List α}{g:Gh}{ix:Int}(h:0≤ix∧ix<ln q)(hk:L[k]?=some (.im Y q g):=by rfl):Pk (SH M X w0 L):=⟨none,λ_=>dW g.a∧0≤ix∧ix<ln q,λ_ hS=>(hS.im k hk).j3 h⟩
def kj(k j:Nat){α:Type}[Inhabited α]{Y:Ty α}{q:List α}{g:Gh}{ix:Int}{v:Value}(h:0≤ix∧ix<ln q)(hk:L[k]?=some (.im Y q g):=by rfl)(hv:(Y.enc (gi q ix) (g.s ix.toNat))[j]?=some v:=by rfl):Pk (SH M X w0 L):=⟨some v,cd ⟨ab g.a,ao g.a+ix.toNat*Y.z+j,none⟩ v,λ_ hS=>(hS.im k hk).cd h j hv⟩
def kI(k:Nat){α:Type}{E:TypeId}{Y:Ty α}{q:List α}{g:Gh}{ix:Int}(h:0≤ix∧ix<ln q)(hk:L[k]?=some (.own E Y q g):=by rfl):Pk (SH M X w0 L):=⟨none,λ_=>dW g.a∧0≤ix∧ix<ln q,λ_ hS=>(hS.cD k hk).j3 h⟩
def kJ(k j:Nat){α:Type}[Inhabited α]{E:TypeId}{Y:Ty α}{q:List α}{g:Gh}{ix:Int}{v:Value}(h:0≤ix∧ix<ln q)(hk:L[k]?=some (.own E Y q g):=by rfl)(hv:(Y.enc (gi q ix) (g.s ix.toNat))[j]?=some v:=by rfl):Pk (SH M X w0 L):=⟨some v,cd ⟨ab g.a,ao g.a+ix.toNat*Y.z+j,none⟩ v,λ_ hS=>(hS.cD k hk).cd h j hv⟩
def ku(c:Prop)(k:Nat){α:Type}{Y:Ty α}{q:List α}{g:Gh}{ix:Int}(h:c→0≤ix∧ix<ln q)(hk:L[k]?=some (.im Y q g):=by rfl):Pk (SH M X w0 L):=⟨none,λ_=>c→dW g.a∧0≤ix∧ix<ln q,λ_ hS hc=>(hS.im k hk).j3 (h hc)⟩
def mv(c:Prop)(k j:Nat){α:Type}[Inhabited α]{Y:Ty α}{q:List α}{g:Gh}{ix:Int}{v:Value}(h:c→0≤ix∧ix<ln q)(hk:L[k]?=some (.im Y q g):=by rfl)(hv:(Y.enc (gi q ix) (g.s ix.toNat))[j]?=some v:=by rfl):Pk (SH M X w0 L):=⟨some v,λw=>c→cd ⟨ab g.a,ao g.a+ix.toNat*Y.z+j,none⟩ v w,λ_ hS hc=>(hS.im k hk).cd (h hc) j hv⟩
def mY(c:Prop)(k:Nat){α:Type}{E:TypeId}{Y:Ty α}{q:List α}{g:Gh}{ix:Int}(h:c→0≤ix∧ix<ln q)(hk:L[k]?=some (.own E Y q g):=by rfl):Pk (SH M X w0 L):=⟨none,λ_=>c→dW g.a∧0≤ix∧ix<ln q,λ_ hS hc=>(hS.cD k hk).j3 (h hc)⟩
def mZ(c:Prop)(k j:Nat){α:Type}[Inhabited α]{E:TypeId}{Y:Ty α}{q:List α}{g:Gh}{ix:Int}{v:Value}(h:c→0≤ix∧ix<ln q)(hk:L[k]?=some (.own E Y q g):=by rfl)(hv:(Y.enc (gi q ix) (g.s ix.toNat))[j]?=some v:=by rfl):Pk (SH M X w0 L):=⟨some v,λw=>c→cd ⟨ab g.a,ao g.a+ix.toNat*Y.z+j,none⟩ v w,λ_ hS hc=>(hS.cD k hk).cd (h hc) j hv⟩
def bO(c:Prop)(k o:Nat){b:Nat}{cs:List Value}{v:Value}(hk:L[k]?=some (.lU b cs):=by rfl)(hv:cs[o]?=some v:=by rfl):Pk (SH M X w0 L):=⟨some v,λw=>c→cd ⟨b,o,none⟩ v w,λ_ h _=>(h.bk k hk).cd hv⟩
def kgo(c:Prop)(k o:Nat){b:Nat}{cs:List Value}{v:Value}(hk:L[k]?=some (.ro b cs):=by rfl)(hv:cs[o]?=some v:=by rfl):Pk (SH M X w0 L):=⟨some v,λw=>c→cd ⟨b,o,none⟩ v w,λ_ h _=>(h.ro k hk).cd hv⟩
end
section
variable {n:Nat} {M:Av} {X:List Nat} {w0:World} {l:SF} {L:List a8} {P:Program} {f:FuncId} {fn:Func} {c:Code} {args:List Value}
def Pn(v:Value)(E:List a8)(M:Av)(X:List Nat)(w:World):Ending→World→Prop:=λe w'=>∃u,e=.returned u∧u=v∧SH M X w E w'
def Pm{γ:Type}(F:γ→Value)(E:γ→List a8)(M:Av)(X:List Nat)(w:World):Ending→World→Prop:=λe w'=>∃u,e=.returned u∧∃g,u=F g∧SH M X w (E g) w'
def N6{γ:Type}(P:Program)(f:FuncId)(args:Array Value)(L:List a8)(F:γ→Value)(E:γ→List a8):Prop:=∀(M:Av)(w:World),S0 M L w→eZ P f args w λv w'=>∃g,v=F g∧SH M (ay L) w (E g) w'
def RW(P:Program)(f:FuncId)(args:Array Value)(L:List a8)(v:Value)(E:List a8):Prop:=∀(M:Av)(w:World),S0 M L w→eZ P f args w λu w'=>u=v∧SH M (ay L) w E w'
theorem RX{γ:Type}{i d:Nat}{x:Operand}{ar:Array Operand}{tF:Array TypeId}{ty:TypeId}{pos:String}{after:Array Edge}{f:FuncId}{av first J9 qW:List Value}{F:γ→Value}{E:γ→List a8}{L':List a8}{D:List Deferred}{all:List Oper}{N:Exit→Act→World→Prop}(kt rt ks:List Nat)(vs:List Value)(hc:N6 P f ⟨av⟩ L' F E)
  (h:∀g,T D n M X w0 ((d,[],F g)::fz ks vs) (E g++dV L rt) λa w=>wpList P all.toArray N (all.drop (i+1)) a w)
  (ho:all[i]?=some ⟨some d,.call ⟨.value x,ar,tF⟩,ty,pos,after,none⟩:=by rfl)(hx:callee l [] x=some (f,first,qW):=by rfl)(ha:oy l [] ar.toList=some J9:=by rfl)(hv:first++J9++qW=av:=by rfl)(hL:dV L kt=L':=by rfl)
  (hd:Nat.blt d n=true:=by rfl)(hk:∀v,aR (nW l d [] v) (d::ks)=some ((d,[],v)::fz ks vs):=by intro v;kernel_rfl)
  (h1:jZ L kt=true:=by rfl)(h2:sf L rt kt=true:=by rfl)(h3:jZ L rt=true:=by rfl):T D n M X w0 l L λa w=>wpList P all.toArray N (all.drop i) a w:=by
 subst hv hL;exact eA kt rt ks vs (λ_ _ H hS=>dw H hx ha (hc _ _ hS)) h ho rfl rfl hd hk h1 h2 h3
theorem dh{v:Value}(hc:∀w,(callFunc f ⟨args⟩).run P w=.ok (.enter f ⟨args⟩) w)(hf:P.funcs[f]?=some fn)(hn:fn.ntmps=n)
  (h:∀(M:Av)(X:List Nat)(w:World),T [] n M X w (AX args 0) [] λa w'=>c.wp P (Qs (Rp P fn (Pn v [] M X w)) [] (Rp P fn (Pn v [] M X w))) a w')(hb:fn.body=some c:=by rfl)(hl:Nat.ble args.length n=true:=by rfl):AQ P f ⟨args⟩ v:=
 a5i hc λw hS=>eg hf hb hn hl λ_ H=>h F0 (ay []) w _ _ H hS
theorem cu{v:Value}{w:World}(hL:S0 F0 L w∧ay L=[])(hc:∀w,(callFunc f ⟨args⟩).run P w=.ok (.enter f ⟨args⟩) w)(hf:P.funcs[f]?=some fn)(hn:fn.ntmps=n)
  (h:∀(M:Av)(X:List Nat)(w:World),T [] n M X w (AX args 0) L λa w'=>c.wp P (Qs (Rp P fn (Pn v [] M X w)) [] (Rp P fn (Pn v [] M X w))) a w')(hb:fn.body=some c:=by rfl)(hl:Nat.ble args.length n=true:=by rfl):kP P f ⟨args⟩ v w:=
 iC hL hc λw hS=>eg hf hb hn hl λ_ H=>h F0 (ay L) w _ _ H hS
theorem gI{γ:Type}{F:γ→Value}{E:γ→List a8}(hc:∀w,(callFunc f ⟨args⟩).run P w=.ok (.enter f ⟨args⟩) w)(hf:P.funcs[f]?=some fn)(hn:fn.ntmps=n)
  (h:∀(M:Av)(X:List Nat)(w:World),T [] n M X w (AX args 0) L λa w'=>c.wp P (Qs (Rp P fn (Pm F E M X w)) [] (Rp P fn (Pm F E M X w))) a w')(hb:fn.body=some c:=by rfl)(hl:Nat.ble args.length n=true:=by rfl):N6 P f ⟨args⟩ L F E:=
 λM w hS=>⟨hc,eg hf hb hn hl λ_ H=>h M (ay L) w _ _ H hS⟩
theorem ZM{v:Value}{E:List a8}(hc:∀w,(callFunc f ⟨args⟩).run P w=.ok (.enter f ⟨args⟩) w)(hf:P.funcs[f]?=some fn)(hn:fn.ntmps=n)
  (h:∀(M:Av)(X:List Nat)(w:World),T [] n M X w (AX args 0) L λa w'=>c.wp P (Qs (Rp P fn (Pn v E M X w)) [] (Rp P fn (Pn v E M X w))) a w')(hb:fn.body=some c:=by rfl)(hl:Nat.ble args.length n=true:=by rfl):RW P f ⟨args⟩ L v E:=
 λM w hS=>⟨hc,eg hf hb hn hl λ_ H=>h M (ay L) w _ _ H hS⟩
def Rs(P:Program)(fn:Func)(l:SF)(L:List a8)(v:Value):Prop:=∀n M X w0 a w (R:Ending→World→Prop),aw [] n l a→SH M X w0 L w→R (.returned v) w→Rp P fn R a w
theorem bi{E:List a8}{v:Value}(ks:List Nat)(hr:Rs P fn l L v)(hE:dV L ks=E:=by rfl)(hk:jZ L ks=true:=by rfl):T [] n M X w0 l L (Rp P fn (Pn v E M X w0)):=
 λ_ _ H hS=>hr _ _ _ _ _ _ _ H hS ⟨_,rfl,rfl,hE▸hS.aV ks hk⟩
theorem de{γ:Type}{F:γ→Value}{E:γ→List a8}(g:γ)(ks:List Nat)(hr:Rs P fn l L (F g))(hE:dV L ks=E g:=by rfl)(hk:jZ L ks=true:=by rfl):T [] n M X w0 l L (Rp P fn (Pm F E M X w0)):=
 λ_ _ H hS=>hr _ _ _ _ _ _ _ H hS ⟨_,rfl,g,rfl,hE▸hS.aV ks hk⟩
theorem rs0(hr:fn.results=#[]:=by rfl):Rs P fn l L (.tuple ⟨[]⟩):=λ_ _ _ _ _ _ _ H _ hR=>tK H hr hR
theorem Ja{t:Nat}{v:Value}(hr:fn.results=#[.tmp t]:=by rfl)(h:fR l t=some ([],v):=by rfl):Rs P fn l L v:=λ_ _ _ _ _ _ _ H _ hR=>tJ H hr h hR
theorem ZN{t s:Nat}{v u:Value}(hr:fn.results=#[.tmp t,.tmp s]:=by rfl)(h:fR l t=some ([],v):=by rfl)(h2:fR l s=some ([],u):=by rfl):Rs P fn l L (.tuple ⟨[v,u]⟩):=λ_ _ _ _ _ _ _ H _ hR=>pM H hr h h2 hR
theorem rsa(k:Nat){t b:Nat}{Y:TypeId}{cs:List Value}{d:TypeDesc}(hu:P.underlying Y=some d)(hr:fn.results=#[.cell t Y]:=by rfl)(h:fR l t=some ([],.pointer (some ⟨b,0,none⟩)):=by rfl)(hk:L[k]?=some (.lU b cs):=by rfl)
  (hd:(match d with| .struct _| .array _ _=>true|_=>false)=true:=by rfl)(hz:(P.info? Y).map (·.size)=some cs.length:=by kernel_rfl):Rs P fn l L (.agg ⟨cs⟩):=λ_ _ _ _ _ _ _ H hS hR=>tJ H hr (qx h (hS.bk k hk) hu hd hz) hR
theorem a5X(k:Nat){t b s:Nat}{u:Value}{Y:TypeId}{cs:List Value}{d:TypeDesc}(hu:P.underlying Y=some d)(hr:fn.results=#[.cell t Y,.tmp s]:=by rfl)(h:fR l t=some ([],.pointer (some ⟨b,0,none⟩)):=by rfl)(h2:fR l s=some ([],u):=by rfl)(hk:L[k]?=some (.lU b cs):=by rfl)
  (hd:(match d with| .struct _| .array _ _=>true|_=>false)=true:=by rfl)(hz:(P.info? Y).map (·.size)=some cs.length:=by kernel_rfl):Rs P fn l L (.tuple ⟨[.agg ⟨cs⟩,u]⟩):=λ_ _ _ _ _ _ _ H hS hR=>pM H hr (qx h (hS.bk k hk) hu hd hz) h2 hR
end
section
variable {P:Program} {a:Act} {w:World} {n:Nat} {l:SF} {M:Av} {D:List Deferred}
theorem ZO{α:Type}{T:Ty α}{d:Nat}{t E:TypeId}{len:Nat}{zv:Value}{parts:Array (Nat×Operand)}{ty:TypeId}{pos:String}{after:Array Edge}{L:List a8}(cs:List Value)(xs:List α)(gs:List (Nat→Gh)){vs:List Value}(H:aw D n l a)(hS:S0 M L w)(he:oy l [] (parts.toList.map (·.2))=some vs)(j5:bd T (dR M L) w xs gs)
  (hu:P.underlying t=some (.slice E):=by kernel_rfl)(hz:(P.info? E).map (·.size)=some T.z:=by kernel_rfl)(qv:(P.info? E).map (·.zero)=some (some zv):=by kernel_rfl)(hlen:Nat.ble (len*T.z) 16777216=true:=by kernel_rfl)(nZ:Nat.blt 0 (len*T.z)=true:=by kernel_rfl)
  (hf:Instr.fill (λi=>some (i*T.z,T.z)) ((Array.range (len*T.z)).map (zv.cells[· %zv.cells.size]!)) ((parts.toList.map (·.1)).zip vs)=some ⟨cs⟩:=by kernel_rfl)(IQ:((dd xs (sL gs) 0).map (fJ T)).flatten=cs:=by kernel_rfl)(pj:xs.length=len:=by kernel_rfl):
  bh P ⟨some d,.buildSlice t len parts,ty,pos,after,none⟩ a w λv w'=>∃g:Gh,v=.slice g.a len g.c∧SH M (ay L) w [.own E T xs g] w':=MN cs xs gs vs H hS he hu hz qv hlen nZ hf IQ pj j5
end
def mb(k:Nat):List Nat→Bool
 |[]=>false
 |x::r=>cond (Nat.beq x k) true (mb k r)
def dl(ks:List Nat):SF→SF
 |[]=>[]
 |e::r=>cond (mb e.1 ks) (dl ks r) (e::dl ks r)
def ky:SF→List Nat
 |[]=>[]
 |e::r=>e.1::ky r
def ap:SF→SF→SF
 |[],r=>r
 |e::q,r=>e::ap q r
def nf(l:SF)(dr nk:List Nat)(nv:List Value):SF:=ap (fz nk nv) (dl nk (dl dr l))
def ak:List Nat→List Nat→List Nat
 |[],r=>r
 |e::q,r=>e::ak q r
def kl(l:SF)(dr nk:List Nat):List Nat:=ak nk (ky (dl nk (dl dr l)))
section
variable {D:List Deferred} {n:Nat} {M:Av} {X:List Nat} {w0:World} {l:SF} {L:List a8} {N R:dY} {ES:List (Nat×dY)} {P:Program} {Q:Exit→Act→World→Prop} {all:List Oper} {id:Nat}
theorem Dr{l':SF}{y:Code}(ks:List Nat)(q:List (Pk (SH M X w0 L)))(h:T D n M X w0 l' L λa w=>y.wp P (Qs N ES R) a w)
  (he:jl P n all (gp q) l ks=some (l',gr q)):T D n M X w0 l L λa w=>(Code.seq (.region id all.toArray false) y).wp P (Qs N ES R) a w:=
 λ_ _ H hS=>Fw (gp q) ks _ (gr q) H he (xP hS q) λ_ _ H' hb=>h _ _ H' (hS.below hb)
theorem ze{l':SF}(ks:List Nat)(q:List (Pk (SH M X w0 L)))(h:T D n M X w0 l' L N)
  (he:jl P n all (gp q) l ks=some (l',gr q)):T D n M X w0 l L λa w=>(Code.region id all.toArray false).wp P (Qs N ES R) a w:=
 λ_ _ H hS=>R9 (gp q) ks _ (gr q) H he (xP hS q) λ_ _ H' hb=>h _ _ H' (hS.below hb)
theorem ZP{l':SF}{i:Nat}(j:Nat)(ks:List Nat)(q:List (Pk (SH M X w0 L)))(h:T D n M X w0 l' L λa w=>wpList P all.toArray Q (all.drop j) a w)
  (he:Fy P n all i j (gp q) l ks=some (l',gr q))(dL:Nat.ble i j=true:=by rfl):T D n M X w0 l L λa w=>wpList P all.toArray Q (all.drop i) a w:=
 λ_ _ H hS=>Rc i j (gp q) ks _ (gr q) H dL he (xP hS q) λ_ _ H' hb=>h _ _ H' (hS.below hb)
theorem uR{y:Code}(dr nk:List Nat)(nv:List Value)(q:List (Pk (SH M X w0 L)))(h:T D n M X w0 (nf l dr nk nv) L λa w=>y.wp P (Qs N ES R) a w)
  (he:jl P n all (gp q) l (kl l dr nk)=some (nf l dr nk nv,gr q):=by kernel_rfl):T D n M X w0 l L λa w=>(Code.seq (.region id all.toArray false) y).wp P (Qs N ES R) a w:=Dr _ q h he
theorem uW(dr nk:List Nat)(nv:List Value)(q:List (Pk (SH M X w0 L)))(h:T D n M X w0 (nf l dr nk nv) L N)
  (he:jl P n all (gp q) l (kl l dr nk)=some (nf l dr nk nv,gr q):=by kernel_rfl):T D n M X w0 l L λa w=>(Code.region id all.toArray false).wp P (Qs N ES R) a w:=ze _ q h he
theorem uB{i:Nat}(j:Nat)(dr nk:List Nat)(nv:List Value)(q:List (Pk (SH M X w0 L)))(h:T D n M X w0 (nf l dr nk nv) L λa w=>wpList P all.toArray Q (all.drop j) a w)
  (he:Fy P n all i j (gp q) l (kl l dr nk)=some (nf l dr nk nv,gr q):=by kernel_rfl)(dL:Nat.ble i j=true:=by rfl):T D n M X w0 l L λa w=>wpList P all.toArray Q (all.drop i) a w:=ZP j _ q h he dL
theorem uA{y:Code}(k:Nat)(v:Value)(q:List (Pk (SH M X w0 L)))(h:T D n M X w0 (nf l [] [k] [v]) L λa w=>y.wp P (Qs N ES R) a w)
  (he:jl P n all (gp q) l (kl l [] [k])=some (nf l [] [k] [v],gr q):=by kernel_rfl):T D n M X w0 l L λa w=>(Code.seq (.region id all.toArray false) y).wp P (Qs N ES R) a w:=Dr _ q h he
theorem uV(k:Nat)(v:Value)(q:List (Pk (SH M X w0 L)))(h:T D n M X w0 (nf l [] [k] [v]) L N)
  (he:jl P n all (gp q) l (kl l [] [k])=some (nf l [] [k] [v],gr q):=by kernel_rfl):T D n M X w0 l L λa w=>(Code.region id all.toArray false).wp P (Qs N ES R) a w:=ze _ q h he
theorem uJ{α:Type}{k:Nat}{x y:Code}{t:Bool}{p s r:α}(dr:List Nat)(q:List (Pk (SH M X w0 L)))(hm:cond t p s=r)(h1:p=r→T D n M X w0 (dl dr l) L λa w=>x.wp P (Qs N ES R) a w)(h2:s=r→T D n M X w0 (dl dr l) L λa w=>y.wp P (Qs N ES R) a w)
  (he:jl P n all (gp q) l (k::ky (dl dr l))=some ((k,[],.bool t)::dl dr l,gr q):=by kernel_rfl):T D n M X w0 l L λa w=>(Code.seq (.region id all.toArray false) (.cond (.tmp k) x y)).wp P (Qs N ES R) a w:=
 Dr _ q (Dl (l:=(k,[],.bool t)::dl dr l) hm (λh a w H hS=>h1 h a w (H.mono λ_ he=>List.mem_cons_of_mem _ he) hS) (λh a w H hS=>h2 h a w (H.mono λ_ he=>List.mem_cons_of_mem _ he) hS) (by simp[ev,fR,tA])) he
theorem su{α:Type}{k:Nat}{x y:Code}{t:Bool}{s:Option α}{r:α}(dr:List Nat)(q:List (Pk (SH M X w0 L)))(hm:cond t none s=some r)(h2:s=some r→T D n M X w0 (dl dr l) L λa w=>y.wp P (Qs N ES R) a w)
  (he:jl P n all (gp q) l (k::ky (dl dr l))=some ((k,[],.bool t)::dl dr l,gr q):=by kernel_rfl):T D n M X w0 l L λa w=>(Code.seq (.region id all.toArray false) (.cond (.tmp k) x y)).wp P (Qs N ES R) a w:=uJ dr q hm (λh=>cN h) h2 he
theorem uC{α:Type}{c:Operand}{x y:Code}{t:Bool}{p s r:α}(hm:cond t p s=r)(h1:p=r→T D n M X w0 l L λa w=>x.wp P (Qs N ES R) a w)(h2:s=r→T D n M X w0 l L λa w=>y.wp P (Qs N ES R) a w)(hc:ev l [] c=some (.bool t):=by kernel_rfl):
  T D n M X w0 l L λa w=>(Code.cond c x y).wp P (Qs N ES R) a w:=Dl hm h1 h2 hc
theorem uO{y:Code}(q:List (Pk (SH M X w0 L)))(h:T D n M X w0 l L λa w=>y.wp P (Qs N ES R) a w)
  (he:jl P n all (gp q) l (ky l)=some (l,gr q):=by kernel_rfl):T D n M X w0 l L λa w=>(Code.seq (.region id all.toArray false) y).wp P (Qs N ES R) a w:=Dr _ q h he
theorem uP{i:Nat}(j:Nat)(q:List (Pk (SH M X w0 L)))(h:T D n M X w0 l L λa w=>wpList P all.toArray Q (all.drop j) a w)
  (he:Fy P n all i j (gp q) l (ky l)=some (l,gr q):=by kernel_rfl)(dL:Nat.ble i j=true:=by rfl):T D n M X w0 l L λa w=>wpList P all.toArray Q (all.drop i) a w:=ZP j _ q h he dL
theorem uI{α:Type}{k:Nat}{x y:Code}{t:Bool}{p s r:α}(q:List (Pk (SH M X w0 L)))(hm:cond t p s=r)(h1:p=r→T D n M X w0 l L λa w=>x.wp P (Qs N ES R) a w)(h2:s=r→T D n M X w0 l L λa w=>y.wp P (Qs N ES R) a w)
  (he:jl P n all (gp q) l (k::ky l)=some ((k,[],.bool t)::l,gr q):=by kernel_rfl):T D n M X w0 l L λa w=>(Code.seq (.region id all.toArray false) (.cond (.tmp k) x y)).wp P (Qs N ES R) a w:=
 Dr _ q (Dl (l:=(k,[],.bool t)::l) hm (λh a w H hS=>h1 h a w (H.mono λ_ he=>List.mem_cons_of_mem _ he) hS) (λh a w H hS=>h2 h a w (H.mono λ_ he=>List.mem_cons_of_mem _ he) hS) (by simp[ev,fR,tA])) he
theorem RY{α:Type}{k:Nat}{x y:Code}{t:Bool}{p:Option α}{r:α}(q:List (Pk (SH M X w0 L)))(hm:cond t p none=some r)(h1:p=some r→T D n M X w0 l L λa w=>x.wp P (Qs N ES R) a w)
  (he:jl P n all (gp q) l (k::ky l)=some ((k,[],.bool t)::l,gr q):=by kernel_rfl):T D n M X w0 l L λa w=>(Code.seq (.region id all.toArray false) (.cond (.tmp k) x y)).wp P (Qs N ES R) a w:=uI q hm h1 (λh=>cN h) he
theorem gu{α:Type}{k:Nat}{x y:Code}{t:Bool}{s:Option α}{r:α}(q:List (Pk (SH M X w0 L)))(hm:cond t none s=some r)(h2:s=some r→T D n M X w0 l L λa w=>y.wp P (Qs N ES R) a w)
  (he:jl P n all (gp q) l (k::ky l)=some ((k,[],.bool t)::l,gr q):=by kernel_rfl):T D n M X w0 l L λa w=>(Code.seq (.region id all.toArray false) (.cond (.tmp k) x y)).wp P (Qs N ES R) a w:=uI q hm (λh=>cN h) h2 he
theorem uN{i:Nat}{o:Oper}{E:List a8}(kt rt:List Nat)
  (hs:∀a w,aw D n l a→S0 (dR M (dV L rt)) (dV L kt) w→bh P o a w λ_ w'=>SH (dR M (dV L rt)) (ay (dV L kt)) w E w')
  (h:T D n M X w0 l (E++dV L rt) λa w=>wpList P all.toArray Q (all.drop (i+1)) a w)
  (ho:all[i]?=some o:=by rfl)(hg:o.guard=none:=by rfl)(qZ:o.dst=none:=by rfl)(hk:aR l (ky l)=some l:=by kernel_rfl)
  (h1:jZ L kt=true:=by rfl)(h2:sf L rt kt=true:=by rfl)(h3:jZ L rt=true:=by rfl):T D n M X w0 l L λa w=>wpList P all.toArray Q (all.drop i) a w:=
 λ_ w H hS=>uE (ky l) _ H ho hg qZ (hs _ w H (hS.hand kt rt h1 h2)) hk λ_ _ H' ⟨_,hq⟩=>h _ _ H' (hS.join kt rt h3 h2 hq)
theorem uM{γ:Type}{i d:Nat}{o:Oper}{F:γ→Value}{E:γ→List a8}(kt rt dr:List Nat)
  (hs:∀a w,aw D n l a→S0 (dR M (dV L rt)) (dV L kt) w→bh P o a w λv w'=>∃g,v=F g∧SH (dR M (dV L rt)) (ay (dV L kt)) w (E g) w')
  (h:∀g,T D n M X w0 ((d,[],F g)::dl (d::dr) l) (E g++dV L rt) λa w=>wpList P all.toArray Q (all.drop (i+1)) a w)
  (ho:all[i]?=some o:=by rfl)(hg:o.guard=none:=by rfl)(qZ:o.dst=some d:=by rfl)(hd:Nat.blt d n=true:=by rfl)(hk:∀v,aR (nW l d [] v) (d::ky (dl (d::dr) l))=some ((d,[],v)::dl (d::dr) l):=by intro v;kernel_rfl)
  (h1:jZ L kt=true:=by rfl)(h2:sf L rt kt=true:=by rfl)(h3:jZ L rt=true:=by rfl):T D n M X w0 l L λa w=>wpList P all.toArray Q (all.drop i) a w:=
 λ_ w H hS=>gn (d::ky (dl (d::dr) l)) _ H ho hg qZ hd (hs _ w H (hS.hand kt rt h1 h2)) hk λ_ _ _ H' ⟨g,e,hq⟩=>h g _ _ (e▸H') (hS.join kt rt h3 h2 hq)
theorem uL{i:Nat}{o:Oper}{E:List a8}(kt rt dr:List Nat)
  (hs:∀a w,aw D n l a→S0 (dR M (dV L rt)) (dV L kt) w→bh P o a w λ_ w'=>SH (dR M (dV L rt)) (ay (dV L kt)) w E w')
  (h:T D n M X w0 (dl dr l) (E++dV L rt) λa w=>wpList P all.toArray Q (all.drop (i+1)) a w)
  (ho:all[i]?=some o:=by rfl)(hg:o.guard=none:=by rfl)(qZ:o.dst=none:=by rfl)(hk:aR l (ky (dl dr l))=some (dl dr l):=by kernel_rfl)
  (h1:jZ L kt=true:=by rfl)(h2:sf L rt kt=true:=by rfl)(h3:jZ L rt=true:=by rfl):T D n M X w0 l L λa w=>wpList P all.toArray Q (all.drop i) a w:=
 λ_ w H hS=>uE (ky (dl dr l)) _ H ho hg qZ (hs _ w H (hS.hand kt rt h1 h2)) hk λ_ _ H' ⟨_,hq⟩=>h _ _ H' (hS.join kt rt h3 h2 hq)
theorem uQ{γ:Type}{i d:Nat}{x:Operand}{ar:Array Operand}{tF:Array TypeId}{ty:TypeId}{pos:String}{after:Array Edge}{f:FuncId}{av first J9 qW:List Value}{F:γ→Value}{E:γ→List a8}{L':List a8}(kt rt dr:List Nat)(hc:N6 P f ⟨av⟩ L' F E)
  (h:∀g,T D n M X w0 ((d,[],F g)::dl (d::dr) l) (E g++dV L rt) λa w=>wpList P all.toArray Q (all.drop (i+1)) a w)
  (ho:all[i]?=some ⟨some d,.call ⟨.value x,ar,tF⟩,ty,pos,after,none⟩:=by rfl)(hx:callee l [] x=some (f,first,qW):=by rfl)(ha:oy l [] ar.toList=some J9:=by rfl)(hv:first++J9++qW=av:=by rfl)(hL:dV L kt=L':=by rfl)
  (hd:Nat.blt d n=true:=by rfl)(hk:∀v,aR (nW l d [] v) (d::ky (dl (d::dr) l))=some ((d,[],v)::dl (d::dr) l):=by intro v;kernel_rfl)
  (h1:jZ L kt=true:=by rfl)(h2:sf L rt kt=true:=by rfl)(h3:jZ L rt=true:=by rfl):T D n M X w0 l L λa w=>wpList P all.toArray Q (all.drop i) a w:=by
 subst hv hL;exact uM kt rt dr (λ_ _ H hS=>dw H hx ha (hc _ _ hS)) h ho rfl rfl hd hk h1 h2 h3
theorem te{l':SF}{L':List a8}(hl:aR l (ky l')=some l':=by kernel_rfl)(hL:L=L':=by rfl):T D n M X w0 l L (Cu D n M X w0 l' L'):=t_e _ hl hL
abbrev Cs{ρ γ:Type}(z:Sum ρ γ)(D:List Deferred)(n:Nat)(M:Av)(X:List Nat)(w0:World)(l:γ→SF)(L:γ→List a8):dY:=λa w=>∃s,z=Sum.inr s∧aw D n (l s) a∧SH M X w0 (L s) w
theorem uS{ρ γ:Type}{z:Sum ρ γ}{x y:Code}(dr nk:List Nat)(nv:γ→List Value)(L':γ→List a8)(h:T D n M X w0 l L λa w=>x.wp P (Qs (Cs z D n M X w0 (λs=>nf l dr nk (nv s)) L') ES R) a w)(h2:∀s,z=Sum.inr s→T D n M X w0 (nf l dr nk (nv s)) (L' s) λa w=>y.wp P (Qs N ES R) a w):
  T D n M X w0 l L λa w=>(Code.seq x y).wp P (Qs N ES R) a w:=λ_ _ H hS=>di _ (h _ _ H hS) λa w ⟨s,hz,h⟩=>h2 s hz a w h.1 h.2
theorem ts{ρ γ:Type}{s:γ}{l':γ→SF}{L':γ→List a8}(hl:aR l (ky (l' s))=some (l' s):=by kernel_rfl)(hL:L=L' s:=by rfl):T D n M X w0 l L (Cs (Sum.inr s:Sum ρ γ) D n M X w0 l' L'):=λ_ _ H hS=>⟨s,rfl,aw.aR H hl,by rw[←hL];exact hS⟩
theorem ZQ{ρ γ:Type}{s:γ}{l':γ→SF}{L':γ→List a8}{a:Act}{w:World}(H:aw D n l a)(hS:SH M X w0 L w)(hl:aR l (ky (l' s))=some (l' s):=by kernel_rfl)(hL:L=L' s:=by rfl):Cs (Sum.inr s:Sum ρ γ) D n M X w0 l' L' a w:=ts hl hL a w H hS
theorem uK{x y:Code}(dr nk:List Nat)(nv:List Value)(L':List a8)(h:T D n M X w0 l L λa w=>x.wp P (Qs (Cu D n M X w0 (nf l dr nk nv) L') ES R) a w)(h2:T D n M X w0 (nf l dr nk nv) L' λa w=>y.wp P (Qs N ES R) a w):
  T D n M X w0 l L λa w=>(Code.seq x y).wp P (Qs N ES R) a w:=λ_ _ H hS=>di _ (h _ _ H hS) λa w h=>h2 a w h.1 h.2
theorem gv{γ:Type}{x y:Code}(dr nk:List Nat)(nv:γ→List Value)(L':γ→List a8)(h:T D n M X w0 l L λa w=>x.wp P (Qs (Cg D n M X w0 (λg=>nf l dr nk (nv g)) L') ES R) a w)(h2:∀g,T D n M X w0 (nf l dr nk (nv g)) (L' g) λa w=>y.wp P (Qs N ES R) a w):
  T D n M X w0 l L λa w=>(Code.seq x y).wp P (Qs N ES R) a w:=λ_ _ H hS=>di _ (h _ _ H hS) λa w ⟨g,h⟩=>h2 g a w h.1 h.2
theorem tg{γ:Type}{l':γ→SF}{L':γ→List a8}(g:γ)(hl:aR l (ky (l' g))=some (l' g):=by kernel_rfl)(hL:L=L' g:=by rfl):T D n M X w0 l L (Cg D n M X w0 l' L'):=a5V g _ hl hL
end
section
variable {D:List Deferred} {n:Nat} {M:Av} {X:List Nat} {w0:World} {l:SF} {L:List a8} {N R:dY} {ES:List (Nat×dY)} {P:Program} {c:Code} {ρ α β δ ε γ:Type} {all:List Oper} {id:Nat}
abbrev RZ(F:Nat→α→Option ρ)(r:ρ)(k:Nat)(D:List Deferred)(n:Nat)(M:Av)(X:List Nat)(w0:World)(l:α→SF)(L:α→List a8):dY:=λa w=>∃m,m<k∧∃x,F m x=some r∧aw D n (l x) a∧SH M X w0 (L x) w
theorem eQ{F:Nat→α→Option ρ}{r:ρ}{k:Nat}{x:α}(dr nk:List Nat)(nv:α→List Value)(L':α→List a8)(hm:F k x=some r)(h:∀k x,F (k+1) x=some r→T D n M X w0 (nf l dr nk (nv x)) (L' x) λa w=>c.wp P (Qs (RZ F r (k+1) D n M X w0 (λx=>nf l dr nk (nv x)) L') ES R) a w)
  (hz:∀x,F 0 x=none:=by intros;rfl)(hl:aR l (kl l dr nk)=some (nf l dr nk (nv x)):=by kernel_rfl)(hL:L=L' x:=by rfl):T D n M X w0 l L λa w=>(Code.loop c).wp P (Qs N ES R) a w:=
 λa w H hS=>iW (λk a w=>∃x,F k x=some r∧aw D n (nf l dr nk (nv x)) a∧SH M X w0 (L' x) w) ⟨k,x,hm,aw.aR H hl,by rw[←hL];exact hS⟩ λm a w=>by
  rintro⟨x,hm,H,hS⟩;cases m with
  |zero=>rw[hz]at hm;cases hm
  |succ k=>exact h k x hm a w H hS
theorem ZR{F:Nat→α→Option ρ}{r:ρ}{k:Nat}{x:α}{lf:α→SF}{Lf:α→List a8}(hm:F k x=some r)(hl:aR l (ky (lf x))=some (lf x):=by kernel_rfl)(hL:L=Lf x:=by rfl):T D n M X w0 l L (RZ F r (k+1) D n M X w0 lf Lf):=
 λ_ _ H hS=>⟨k,Nat.lt_succ_self _,x,hm,aw.aR H hl,by rw[←hL];exact hS⟩
theorem gw{F:Nat→α→Option ρ}{r:ρ}{k:Nat}{x:α}{lf:α→SF}{Lf:α→List a8}(q:List (Pk (SH M X w0 L)))(hm:F k x=some r)(he:jl P n all (gp q) l (ky (lf x))=some (lf x,gr q):=by kernel_rfl)(hL:L=Lf x:=by rfl):T D n M X w0 l L λa w=>(Code.region id all.toArray false).wp P (Qs (RZ F r (k+1) D n M X w0 lf Lf) ES R) a w:=
 ze _ q (λ_ _ H hS=>⟨k,Nat.lt_succ_self _,x,hm,H,by rw[←hL];exact hS⟩) he
abbrev S5(F:Nat→α→β→Option ρ)(r:ρ)(k:Nat)(D:List Deferred)(n:Nat)(M:Av)(X:List Nat)(w0:World)(l:α→β→SF)(L:α→β→List a8):dY:=λa w=>∃m,m<k∧∃x,∃y,F m x y=some r∧aw D n (l x y) a∧SH M X w0 (L x y) w
theorem iX{F:Nat→α→β→Option ρ}{r:ρ}{k:Nat}{x:α}{y:β}(dr nk:List Nat)(nv:α→β→List Value)(L':α→β→List a8)(hm:F k x y=some r)(h:∀k x y,F (k+1) x y=some r→T D n M X w0 (nf l dr nk (nv x y)) (L' x y) λa w=>c.wp P (Qs (S5 F r (k+1) D n M X w0 (λx y=>nf l dr nk (nv x y)) L') ES R) a w)
  (hz:∀x y,F 0 x y=none:=by intros;rfl)(hl:aR l (kl l dr nk)=some (nf l dr nk (nv x y)):=by kernel_rfl)(hL:L=L' x y:=by rfl):T D n M X w0 l L λa w=>(Code.loop c).wp P (Qs N ES R) a w:=
 λa w H hS=>iW (λk a w=>∃x,∃y,F k x y=some r∧aw D n (nf l dr nk (nv x y)) a∧SH M X w0 (L' x y) w) ⟨k,x,y,hm,aw.aR H hl,by rw[←hL];exact hS⟩ λm a w=>by
  rintro⟨x,y,hm,H,hS⟩;cases m with
  |zero=>rw[hz]at hm;cases hm
  |succ k=>exact h k x y hm a w H hS
theorem ug2{F:Nat→α→β→Option ρ}{r:ρ}{k:Nat}{x:α}{y:β}{lf:α→β→SF}{Lf:α→β→List a8}(hm:F k x y=some r)(hl:aR l (ky (lf x y))=some (lf x y):=by kernel_rfl)(hL:L=Lf x y:=by rfl):T D n M X w0 l L (S5 F r (k+1) D n M X w0 lf Lf):=
 λ_ _ H hS=>⟨k,Nat.lt_succ_self _,x,y,hm,aw.aR H hl,by rw[←hL];exact hS⟩
theorem jz{F:Nat→α→β→Option ρ}{r:ρ}{k:Nat}{x:α}{y:β}{lf:α→β→SF}{Lf:α→β→List a8}(q:List (Pk (SH M X w0 L)))(hm:F k x y=some r)(he:jl P n all (gp q) l (ky (lf x y))=some (lf x y,gr q):=by kernel_rfl)(hL:L=Lf x y:=by rfl):T D n M X w0 l L λa w=>(Code.region id all.toArray false).wp P (Qs (S5 F r (k+1) D n M X w0 lf Lf) ES R) a w:=
 ze _ q (λ_ _ H hS=>⟨k,Nat.lt_succ_self _,x,y,hm,H,by rw[←hL];exact hS⟩) he
abbrev S6(F:Nat→α→β→Option ρ)(r:ρ)(k:Nat)(D:List Deferred)(n:Nat)(M:Av)(X:List Nat)(w0:World)(l:α→β→γ→SF)(L:α→β→γ→List a8):dY:=λa w=>∃m,m<k∧∃x,∃y,∃g,F m x y=some r∧aw D n (l x y g) a∧SH M X w0 (L x y g) w
theorem mw{F:Nat→α→β→Option ρ}{r:ρ}{k:Nat}{x:α}{y:β}(dr nk:List Nat)(nv:α→β→γ→List Value)(L':α→β→γ→List a8)(g:γ)(hm:F k x y=some r)(h:∀k x y g,F (k+1) x y=some r→T D n M X w0 (nf l dr nk (nv x y g)) (L' x y g) λa w=>c.wp P (Qs (S6 F r (k+1) D n M X w0 (λx y g=>nf l dr nk (nv x y g)) L') ES R) a w)
  (hz:∀x y,F 0 x y=none:=by intros;rfl)(hl:aR l (kl l dr nk)=some (nf l dr nk (nv x y g)):=by kernel_rfl)(hL:L=L' x y g:=by rfl):T D n M X w0 l L λa w=>(Code.loop c).wp P (Qs N ES R) a w:=
 λa w H hS=>iW (λk a w=>∃x,∃y,∃g,F k x y=some r∧aw D n (nf l dr nk (nv x y g)) a∧SH M X w0 (L' x y g) w) ⟨k,x,y,g,hm,aw.aR H hl,by rw[←hL];exact hS⟩ λm a w=>by
  rintro⟨x,y,g,hm,H,hS⟩;cases m with
  |zero=>rw[hz]at hm;cases hm
  |succ k=>exact h k x y g hm a w H hS
theorem uH{F:Nat→α→β→Option ρ}{r:ρ}{k:Nat}{x:α}{y:β}{lf:α→β→γ→SF}{Lf:α→β→γ→List a8}(g:γ)(hm:F k x y=some r)(hl:aR l (ky (lf x y g))=some (lf x y g):=by kernel_rfl)(hL:L=Lf x y g:=by rfl):T D n M X w0 l L (S6 F r (k+1) D n M X w0 lf Lf):=
 λ_ _ H hS=>⟨k,Nat.lt_succ_self _,x,y,g,hm,aw.aR H hl,by rw[←hL];exact hS⟩
theorem wy{F:Nat→α→β→Option ρ}{r:ρ}{k:Nat}{x:α}{y:β}{lf:α→β→γ→SF}{Lf:α→β→γ→List a8}(q:List (Pk (SH M X w0 L)))(g:γ)(hm:F k x y=some r)(he:jl P n all (gp q) l (ky (lf x y g))=some (lf x y g,gr q):=by kernel_rfl)(hL:L=Lf x y g:=by rfl):T D n M X w0 l L λa w=>(Code.region id all.toArray false).wp P (Qs (S6 F r (k+1) D n M X w0 lf Lf) ES R) a w:=
 ze _ q (λ_ _ H hS=>⟨k,Nat.lt_succ_self _,x,y,g,hm,H,by rw[←hL];exact hS⟩) he
abbrev S7(F:Nat→α→β→δ→Option ρ)(r:ρ)(k:Nat)(D:List Deferred)(n:Nat)(M:Av)(X:List Nat)(w0:World)(l:α→β→δ→SF)(L:α→β→δ→List a8):dY:=λa w=>∃m,m<k∧∃x,∃y,∃u,F m x y u=some r∧aw D n (l x y u) a∧SH M X w0 (L x y u) w
theorem S8{F:Nat→α→β→δ→Option ρ}{r:ρ}{k:Nat}{x:α}{y:β}{u:δ}(dr nk:List Nat)(nv:α→β→δ→List Value)(L':α→β→δ→List a8)(hm:F k x y u=some r)(h:∀k x y u,F (k+1) x y u=some r→T D n M X w0 (nf l dr nk (nv x y u)) (L' x y u) λa w=>c.wp P (Qs (S7 F r (k+1) D n M X w0 (λx y u=>nf l dr nk (nv x y u)) L') ES R) a w)
  (hz:∀x y u,F 0 x y u=none:=by intros;rfl)(hl:aR l (kl l dr nk)=some (nf l dr nk (nv x y u)):=by kernel_rfl)(hL:L=L' x y u:=by rfl):T D n M X w0 l L λa w=>(Code.loop c).wp P (Qs N ES R) a w:=
 λa w H hS=>iW (λk a w=>∃x,∃y,∃u,F k x y u=some r∧aw D n (nf l dr nk (nv x y u)) a∧SH M X w0 (L' x y u) w) ⟨k,x,y,u,hm,aw.aR H hl,by rw[←hL];exact hS⟩ λm a w=>by
  rintro⟨x,y,u,hm,H,hS⟩;cases m with
  |zero=>rw[hz]at hm;cases hm
  |succ k=>exact h k x y u hm a w H hS
theorem ug3{F:Nat→α→β→δ→Option ρ}{r:ρ}{k:Nat}{x:α}{y:β}{u:δ}{lf:α→β→δ→SF}{Lf:α→β→δ→List a8}(hm:F k x y u=some r)(hl:aR l (ky (lf x y u))=some (lf x y u):=by kernel_rfl)(hL:L=Lf x y u:=by rfl):T D n M X w0 l L (S7 F r (k+1) D n M X w0 lf Lf):=
 λ_ _ H hS=>⟨k,Nat.lt_succ_self _,x,y,u,hm,aw.aR H hl,by rw[←hL];exact hS⟩
theorem ZS{F:Nat→α→β→δ→Option ρ}{r:ρ}{k:Nat}{x:α}{y:β}{u:δ}{lf:α→β→δ→SF}{Lf:α→β→δ→List a8}(q:List (Pk (SH M X w0 L)))(hm:F k x y u=some r)(he:jl P n all (gp q) l (ky (lf x y u))=some (lf x y u,gr q):=by kernel_rfl)(hL:L=Lf x y u:=by rfl):T D n M X w0 l L λa w=>(Code.region id all.toArray false).wp P (Qs (S7 F r (k+1) D n M X w0 lf Lf) ES R) a w:=
 ze _ q (λ_ _ H hS=>⟨k,Nat.lt_succ_self _,x,y,u,hm,H,by rw[←hL];exact hS⟩) he
abbrev S9(F:Nat→α→β→δ→Option ρ)(r:ρ)(k:Nat)(D:List Deferred)(n:Nat)(M:Av)(X:List Nat)(w0:World)(l:α→β→δ→γ→SF)(L:α→β→δ→γ→List a8):dY:=λa w=>∃m,m<k∧∃x,∃y,∃u,∃g,F m x y u=some r∧aw D n (l x y u g) a∧SH M X w0 (L x y u g) w
theorem N7{F:Nat→α→β→δ→Option ρ}{r:ρ}{k:Nat}{x:α}{y:β}{u:δ}(dr nk:List Nat)(nv:α→β→δ→γ→List Value)(L':α→β→δ→γ→List a8)(g:γ)(hm:F k x y u=some r)(h:∀k x y u g,F (k+1) x y u=some r→T D n M X w0 (nf l dr nk (nv x y u g)) (L' x y u g) λa w=>c.wp P (Qs (S9 F r (k+1) D n M X w0 (λx y u g=>nf l dr nk (nv x y u g)) L') ES R) a w)
  (hz:∀x y u,F 0 x y u=none:=by intros;rfl)(hl:aR l (kl l dr nk)=some (nf l dr nk (nv x y u g)):=by kernel_rfl)(hL:L=L' x y u g:=by rfl):T D n M X w0 l L λa w=>(Code.loop c).wp P (Qs N ES R) a w:=
 λa w H hS=>iW (λk a w=>∃x,∃y,∃u,∃g,F k x y u=some r∧aw D n (nf l dr nk (nv x y u g)) a∧SH M X w0 (L' x y u g) w) ⟨k,x,y,u,g,hm,aw.aR H hl,by rw[←hL];exact hS⟩ λm a w=>by
  rintro⟨x,y,u,g,hm,H,hS⟩;cases m with
  |zero=>rw[hz]at hm;cases hm
  |succ k=>exact h k x y u g hm a w H hS
theorem ZT{F:Nat→α→β→δ→Option ρ}{r:ρ}{k:Nat}{x:α}{y:β}{u:δ}{lf:α→β→δ→γ→SF}{Lf:α→β→δ→γ→List a8}(g:γ)(hm:F k x y u=some r)(hl:aR l (ky (lf x y u g))=some (lf x y u g):=by kernel_rfl)(hL:L=Lf x y u g:=by rfl):T D n M X w0 l L (S9 F r (k+1) D n M X w0 lf Lf):=
 λ_ _ H hS=>⟨k,Nat.lt_succ_self _,x,y,u,g,hm,aw.aR H hl,by rw[←hL];exact hS⟩
theorem ZU{F:Nat→α→β→δ→Option ρ}{r:ρ}{k:Nat}{x:α}{y:β}{u:δ}{lf:α→β→δ→γ→SF}{Lf:α→β→δ→γ→List a8}(q:List (Pk (SH M X w0 L)))(g:γ)(hm:F k x y u=some r)(he:jl P n all (gp q) l (ky (lf x y u g))=some (lf x y u g,gr q):=by kernel_rfl)(hL:L=Lf x y u g:=by rfl):T D n M X w0 l L λa w=>(Code.region id all.toArray false).wp P (Qs (S9 F r (k+1) D n M X w0 lf Lf) ES R) a w:=
 ze _ q (λ_ _ H hS=>⟨k,Nat.lt_succ_self _,x,y,u,g,hm,H,by rw[←hL];exact hS⟩) he
abbrev Sa(F:Nat→α→β→δ→ε→Option ρ)(r:ρ)(k:Nat)(D:List Deferred)(n:Nat)(M:Av)(X:List Nat)(w0:World)(l:α→β→δ→ε→SF)(L:α→β→δ→ε→List a8):dY:=λa w=>∃m,m<k∧∃x,∃y,∃u,∃v,F m x y u v=some r∧aw D n (l x y u v) a∧SH M X w0 (L x y u v) w
theorem N8{F:Nat→α→β→δ→ε→Option ρ}{r:ρ}{k:Nat}{x:α}{y:β}{u:δ}{v:ε}(dr nk:List Nat)(nv:α→β→δ→ε→List Value)(L':α→β→δ→ε→List a8)(hm:F k x y u v=some r)(h:∀k x y u v,F (k+1) x y u v=some r→T D n M X w0 (nf l dr nk (nv x y u v)) (L' x y u v) λa w=>c.wp P (Qs (Sa F r (k+1) D n M X w0 (λx y u v=>nf l dr nk (nv x y u v)) L') ES R) a w)
  (hz:∀x y u v,F 0 x y u v=none:=by intros;rfl)(hl:aR l (kl l dr nk)=some (nf l dr nk (nv x y u v)):=by kernel_rfl)(hL:L=L' x y u v:=by rfl):T D n M X w0 l L λa w=>(Code.loop c).wp P (Qs N ES R) a w:=
 λa w H hS=>iW (λk a w=>∃x,∃y,∃u,∃v,F k x y u v=some r∧aw D n (nf l dr nk (nv x y u v)) a∧SH M X w0 (L' x y u v) w) ⟨k,x,y,u,v,hm,aw.aR H hl,by rw[←hL];exact hS⟩ λm a w=>by
  rintro⟨x,y,u,v,hm,H,hS⟩;cases m with
  |zero=>rw[hz]at hm;cases hm
  |succ k=>exact h k x y u v hm a w H hS
theorem ug4{F:Nat→α→β→δ→ε→Option ρ}{r:ρ}{k:Nat}{x:α}{y:β}{u:δ}{v:ε}{lf:α→β→δ→ε→SF}{Lf:α→β→δ→ε→List a8}(hm:F k x y u v=some r)(hl:aR l (ky (lf x y u v))=some (lf x y u v):=by kernel_rfl)(hL:L=Lf x y u v:=by rfl):T D n M X w0 l L (Sa F r (k+1) D n M X w0 lf Lf):=
 λ_ _ H hS=>⟨k,Nat.lt_succ_self _,x,y,u,v,hm,aw.aR H hl,by rw[←hL];exact hS⟩
theorem Sb{F:Nat→α→β→δ→ε→Option ρ}{r:ρ}{k:Nat}{x:α}{y:β}{u:δ}{v:ε}{lf:α→β→δ→ε→SF}{Lf:α→β→δ→ε→List a8}(q:List (Pk (SH M X w0 L)))(hm:F k x y u v=some r)(he:jl P n all (gp q) l (ky (lf x y u v))=some (lf x y u v,gr q):=by kernel_rfl)(hL:L=Lf x y u v:=by rfl):T D n M X w0 l L λa w=>(Code.region id all.toArray false).wp P (Qs (Sa F r (k+1) D n M X w0 lf Lf) ES R) a w:=
 ze _ q (λ_ _ H hS=>⟨k,Nat.lt_succ_self _,x,y,u,v,hm,H,by rw[←hL];exact hS⟩) he
abbrev Sc(F:Nat→α→β→δ→ε→Option ρ)(r:ρ)(k:Nat)(D:List Deferred)(n:Nat)(M:Av)(X:List Nat)(w0:World)(l:α→β→δ→ε→γ→SF)(L:α→β→δ→ε→γ→List a8):dY:=λa w=>∃m,m<k∧∃x,∃y,∃u,∃v,∃g,F m x y u v=some r∧aw D n (l x y u v g) a∧SH M X w0 (L x y u v g) w
theorem a5Y{F:Nat→α→β→δ→ε→Option ρ}{r:ρ}{k:Nat}{x:α}{y:β}{u:δ}{v:ε}(dr nk:List Nat)(nv:α→β→δ→ε→γ→List Value)(L':α→β→δ→ε→γ→List a8)(g:γ)(hm:F k x y u v=some r)(h:∀k x y u v g,F (k+1) x y u v=some r→T D n M X w0 (nf l dr nk (nv x y u v g)) (L' x y u v g) λa w=>c.wp P (Qs (Sc F r (k+1) D n M X w0 (λx y u v g=>nf l dr nk (nv x y u v g)) L') ES R) a w)
  (hz:∀x y u v,F 0 x y u v=none:=by intros;rfl)(hl:aR l (kl l dr nk)=some (nf l dr nk (nv x y u v g)):=by kernel_rfl)(hL:L=L' x y u v g:=by rfl):T D n M X w0 l L λa w=>(Code.loop c).wp P (Qs N ES R) a w:=
 λa w H hS=>iW (λk a w=>∃x,∃y,∃u,∃v,∃g,F k x y u v=some r∧aw D n (nf l dr nk (nv x y u v g)) a∧SH M X w0 (L' x y u v g) w) ⟨k,x,y,u,v,g,hm,aw.aR H hl,by rw[←hL];exact hS⟩ λm a w=>by
  rintro⟨x,y,u,v,g,hm,H,hS⟩;cases m with
  |zero=>rw[hz]at hm;cases hm
  |succ k=>exact h k x y u v g hm a w H hS
theorem a5Z{F:Nat→α→β→δ→ε→Option ρ}{r:ρ}{k:Nat}{x:α}{y:β}{u:δ}{v:ε}{lf:α→β→δ→ε→γ→SF}{Lf:α→β→δ→ε→γ→List a8}(g:γ)(hm:F k x y u v=some r)(hl:aR l (ky (lf x y u v g))=some (lf x y u v g):=by kernel_rfl)(hL:L=Lf x y u v g:=by rfl):T D n M X w0 l L (Sc F r (k+1) D n M X w0 lf Lf):=
 λ_ _ H hS=>⟨k,Nat.lt_succ_self _,x,y,u,v,g,hm,aw.aR H hl,by rw[←hL];exact hS⟩
theorem a60{F:Nat→α→β→δ→ε→Option ρ}{r:ρ}{k:Nat}{x:α}{y:β}{u:δ}{v:ε}{lf:α→β→δ→ε→γ→SF}{Lf:α→β→δ→ε→γ→List a8}(q:List (Pk (SH M X w0 L)))(g:γ)(hm:F k x y u v=some r)(he:jl P n all (gp q) l (ky (lf x y u v g))=some (lf x y u v g,gr q):=by kernel_rfl)(hL:L=Lf x y u v g:=by rfl):T D n M X w0 l L λa w=>(Code.region id all.toArray false).wp P (Qs (Sc F r (k+1) D n M X w0 lf Lf) ES R) a w:=
 ze _ q (λ_ _ H hS=>⟨k,Nat.lt_succ_self _,x,y,u,v,g,hm,H,by rw[←hL];exact hS⟩) he
end
section
variable {n:Nat} {M:Av} {X:List Nat} {w0:World} {l:SF} {L E:List a8} {ES:List (Nat×dY)} {P:Program} {all:List Oper} {id:Nat} {fn:Func} {N:dY}
theorem zf(hr:fn.results=#[]:=by rfl):Rs P fn l L (.tuple ⟨[]⟩):=rs0 hr
theorem bp{t:Nat}{v:Value}(hr:fn.results=#[.tmp t]:=by rfl)(h:fR l t=some ([],v):=by kernel_rfl):Rs P fn l L v:=Ja hr h
theorem fa{t s:Nat}{v u:Value}(hr:fn.results=#[.tmp t,.tmp s]:=by rfl)(h:fR l t=some ([],v):=by kernel_rfl)(h2:fR l s=some ([],u):=by kernel_rfl):Rs P fn l L (.tuple ⟨[v,u]⟩):=ZN hr h h2
theorem Jb(k:Nat){t b:Nat}{Y:TypeId}{cs:List Value}{d:TypeDesc}(hu:P.underlying Y=some d)(hr:fn.results=#[.cell t Y]:=by rfl)(hk:L[k]?=some (.lU b cs):=by rfl)(h:fR l t=some ([],.pointer (some ⟨b,0,none⟩)):=by kernel_rfl)
  (hd:(match d with| .struct _| .array _ _=>true|_=>false)=true:=by rfl)(hz:(P.info? Y).map (·.size)=some cs.length:=by kernel_rfl):Rs P fn l L (.agg ⟨cs⟩):=rsa k hu hr h hk hd hz
theorem lV(k:Nat){t b s:Nat}{u:Value}{Y:TypeId}{cs:List Value}{d:TypeDesc}(hu:P.underlying Y=some d)(hr:fn.results=#[.cell t Y,.tmp s]:=by rfl)(hk:L[k]?=some (.lU b cs):=by rfl)(h:fR l t=some ([],.pointer (some ⟨b,0,none⟩)):=by kernel_rfl)(h2:fR l s=some ([],u):=by kernel_rfl)
  (hd:(match d with| .struct _| .array _ _=>true|_=>false)=true:=by rfl)(hz:(P.info? Y).map (·.size)=some cs.length:=by kernel_rfl):Rs P fn l L (.tuple ⟨[.agg ⟨cs⟩,u]⟩):=a5X k hu hr h h2 hk hd hz
theorem uZ{t:Nat}{v:Value}(ks:List Nat)(q:List (Pk (SH M X w0 L)))(hr:fn.results=#[.tmp t]:=by rfl)(he:jl P n all (gp q) l [t]=some ([(t,[],v)],gr q):=by kernel_rfl)(hE:dV L ks=E:=by rfl)(hk:jZ L ks=true:=by rfl):
  T [] n M X w0 l L λa w=>(Code.seq (.region id all.toArray false) .ret).wp P (Qs N ES (Rp P fn (Pn v E M X w0))) a w:=Dr _ q (aQ (bi ks (Ja hr (by simp[fR])) hE hk)) he
theorem uY{t s:Nat}{v u:Value}(ks:List Nat)(q:List (Pk (SH M X w0 L)))(hr:fn.results=#[.tmp t,.tmp s]:=by rfl)(he:jl P n all (gp q) l [t,s]=some ([(t,[],v),(s,[],u)],gr q):=by kernel_rfl)(lT:Nat.beq t s=false:=by rfl)(hE:dV L ks=E:=by rfl)(hk:jZ L ks=true:=by rfl):
  T [] n M X w0 l L λa w=>(Code.seq (.region id all.toArray false) .ret).wp P (Qs N ES (Rp P fn (Pn (.tuple ⟨[v,u]⟩) E M X w0))) a w:=Dr _ q (aQ (bi ks (ZN hr (by simp[fR]) (by simp[fR,lT])) hE hk)) he
end
section
variable {P:Program} {D:List Deferred} {n:Nat} {M:Av} {l:SF} {ty:TypeId} {pos:String} {after:Array Edge}
theorem oS{t:TypeId}{x y:Operand}{b off:Nat}{v:Value}{cs:List Value}(Dc:List Value)
  (hx:ev l [] x=some (.pointer (some ⟨b,off,none⟩)))(hy:ev l [] y=some v)(hz:(P.info? t).map (·.size)=some v.cells.toList.length:=by kernel_rfl)(h1:qu v.cells.toList=true:=by kernel_rfl)(hl:Nat.ble (off+v.cells.toList.length) cs.length=true:=by kernel_rfl)(hs:kg cs off v.cells.toList=Dc:=by kernel_rfl):
  ∀a w,aw D n l a→S0 M [.lU b cs] w→bh P ⟨none,.store t x y,ty,pos,after,none⟩ a w λ_ w'=>SH M (ay [.lU b cs]) w [.lU b Dc] w':=λ_ _ H hS=>qy Dc H hS hx hy hz h1 hl hs
theorem oA{d:Option Tmp}{E:TypeId}(cs:List Value)(hz:(P.info? E).map (·.zero)=some (some (.agg ⟨cs⟩)):=by kernel_rfl):
  ∀a w,aw D n l a→S0 M [] w→bh P ⟨d,.alloc E,ty,pos,after,none⟩ a w λu w'=>∃b:Nat,u=.pointer (some ⟨b,0,none⟩)∧SH M (ay []) w [.lU b cs] w':=λ_ _ _ hS=>ux cs (z:=.agg ⟨cs⟩) hS hz rfl
theorem oB{d:Option Tmp}{E:TypeId}{x:Operand}{v:Value}(cs:List Value)(hx:ev l [] x=some v)(hc:v.cells.toList=cs:=by kernel_rfl):
  ∀a w,aw D n l a→S0 M [] w→bh P ⟨d,.box E x,ty,pos,after,none⟩ a w λu w'=>∃b:Nat,u=.pointer (some ⟨b,0,none⟩)∧SH M (ay []) w [.lU b cs] w':=λ_ _ H hS=>a5l cs H hS hx hc
theorem oL{α:Type}(T:Ty α){d:Nat}{t:TypeId}(E:TypeId){len:Nat}(zv:Value){parts:Array (Nat×Operand)}{L:List a8}(xs:List α)(gs:List (Nat→Gh)){vs:List Value}(j5:∀{w},S0 M L w→bd T (dR M L) w xs gs)(he:oy l [] (parts.toList.map (·.2))=some vs)
  (hu:P.underlying t=some (.slice E):=by kernel_rfl)(hz:(P.info? E).map (·.size)=some T.z:=by kernel_rfl)(qv:(P.info? E).map (·.zero)=some (some zv):=by kernel_rfl)(hlen:Nat.ble (len*T.z) 16777216=true:=by kernel_rfl)(nZ:Nat.blt 0 (len*T.z)=true:=by kernel_rfl)
  (hf:Instr.fill (λi=>some (i*T.z,T.z)) ((Array.range (len*T.z)).map (zv.cells[· %zv.cells.size]!)) ((parts.toList.map (·.1)).zip vs)=some ⟨((dd xs (sL gs) 0).map (fJ T)).flatten⟩:=by kernel_rfl)(pj:xs.length=len:=by kernel_rfl):
  ∀a w,aw D n l a→S0 M L w→bh P ⟨some d,.buildSlice t len parts,ty,pos,after,none⟩ a w λv w'=>∃g:Gh,v=.slice g.a len g.c∧SH M (ay L) w [.own E T xs g] w':=λ_ _ H hS=>MN _ xs gs vs H hS he hu hz qv hlen nZ hf rfl pj (j5 hS)
theorem oM{α:Type}(T:Ty α){d:Nat}{t:TypeId}(E:TypeId){len:Nat}(zv:Value){parts:Array (Nat×Operand)}{L:List a8}(xs:List α)(gs:List (Nat→Gh)){vs:List Value}{a:Act}{w:World}(H:aw D n l a)(hS:S0 M L w)(he:oy l [] (parts.toList.map (·.2))=some vs)(j5:bd T (dR M L) w xs gs)
  (hu:P.underlying t=some (.slice E):=by kernel_rfl)(hz:(P.info? E).map (·.size)=some T.z:=by kernel_rfl)(qv:(P.info? E).map (·.zero)=some (some zv):=by kernel_rfl)(hlen:Nat.ble (len*T.z) 16777216=true:=by kernel_rfl)(nZ:Nat.blt 0 (len*T.z)=true:=by kernel_rfl)
  (hf:Instr.fill (λi=>some (i*T.z,T.z)) ((Array.range (len*T.z)).map (zv.cells[· %zv.cells.size]!)) ((parts.toList.map (·.1)).zip vs)=some ⟨((dd xs (sL gs) 0).map (fJ T)).flatten⟩:=by kernel_rfl)(pj:xs.length=len:=by kernel_rfl):
  bh P ⟨some d,.buildSlice t len parts,ty,pos,after,none⟩ a w λv w'=>∃g:Gh,v=.slice g.a len g.c∧SH M (ay L) w [.own E T xs g] w':=MN _ xs gs vs H hS he hu hz qv hlen nZ hf rfl pj j5
theorem oP{α:Type}(T:Ty α){d:Nat}{s x:Operand}{t e e2:TypeId}(zv:Value)(g1 g2:Gh){n1 n2 c1 c2:Nat}{a1 a2:Option Addr}{l1 l2 q:List α}(hq:q=l1++l2)(hl:V.ln l1+V.ln l2≤137438953472)
  (hs:ev l [] s=some (.slice a1 n1 c1))(hx:ev l [] x=some (.slice a2 n2 c2))(uy:g1.a=a1:=by kernel_rfl)(pN:g1.c=c1:=by kernel_rfl)(Dd:g2.a=a2:=by kernel_rfl)(qq:l1.length=n1:=by kernel_rfl)(qt:l2.length=n2:=by kernel_rfl)
  (hu:P.underlying t=some (.slice e):=by kernel_rfl)(hi:(P.info? e).map (λi=>(i.size,Nat.ble i.bytes 1024,i.zero))=some (T.z,true,some zv):=by kernel_rfl)(pK:zv.cells.size=T.z:=by kernel_rfl)(hz:Nat.blt 0 T.z=true:=by kernel_rfl):
  ∀a w,aw D n l a→S0 M [.own e T l1 g1,.own e2 T l2 g2] w→bh P ⟨some d,.call ⟨.builtin .append,#[s,x],#[t,t]⟩,ty,pos,after,none⟩ a w λv w'=>∃g:Gh,v=.slice g.a q.length g.c∧SH M (ay [.own e T l1 g1,.own e2 T l2 g2]) w [.own e T q g,.own e2 T l2 g2] w':=
 λ_ _ H hS=>B0 q hq.symm H hS hs hx uy pN Dd qq qt hu hi pK hz hl
end
abbrev gT(b:Bool):Prop:=b=true∧True
abbrev gF(b:Bool):Prop:=b=false∧True
theorem SH.ZV{M:Av}{X:List Nat}{w0 w:World}{L:List a8}{α:Type}{T:Ty α}{q:List α}{g:Gh}(h:SH M X w0 (.im T q g::L) w):SH M X w0 L w:=by
  have hf:(a8.im T q g).fp=[]:=rfl;have Da:ay (.im T q g::L)=ay L:=by simp[ay,hf]
  have IU:dR M (.im T q g::L)=dR M L:=by unfold dR;rw[Da]
  have J3:=h.nd;rw[List.pairwise_cons]at J3;exact⟨h.kp,J3.2,λb hb=>h.lo b (by rw[Da];exact hb),λb hb=>h.nm b (by rw[Da];exact hb),h.mx,λe' he=>by
    have:=h.ps e' (List.mem_cons_of_mem _ he);rw[IU]at this;exact this⟩
/-- How the two places are told: by a slot each, or worked out. -/
inductive Sh4 where
  |s2
  |s3 (v:Value)
  |s4 (u v:Value)
  |s8 (s t u v:Value)
namespace Sh4
def a:Sh4→Nat
  | .s8 _ _ _ _=>4
  |_=>2
def b:Sh4→Nat
  | .s2=>2
  | .s3 _=>3
  |_=>4
def ca:Sh4→List Value
  | .s8 s t _ _=>[s,t]
  |_=>[]
def cb:Sh4→List Value
  | .s2=>[]
  | .s3 v=>[v]
  | .s4 u v=>[u,v]
  | .s8 _ _ u v=>[u,v]
def n(h:Sh4):Nat:=2*h.a+2*h.b+8
def p1(h:Sh4):Nat:=h.a+h.b+h.b+1
def e0(h:Sh4):Nat:=2*h.a+2*h.b+4
def si(k n:Nat):List (List Nat):=(List.range (n-1)).map (λi=>[k+i])++[List.range' (k+1) (n-1)]
def U(h:Sh4):List (List Nat):=(List.range h.n).map λi=>cond (Nat.beq i (h.e0+1)) [h.p1,h.n] (cond (Nat.beq i (h.e0+2)) [h.e0+1] (cond (Nat.beq i (h.e0+3)) [h.e0-1,h.e0+1] (cond (Nat.beq i h.p1||(Nat.beq i (h.p1-1)||(Nat.beq i (h.e0-1)||(Nat.beq i (h.e0-2)||Nat.beq i h.e0)))) [h.n] [])))
def C(h:Sh4):List (List Nat):=List.replicate (h.e0+1) []++[[h.n],[],[h.e0+1]]
def S(h:Sh4):List (List Nat):=si 0 h.a++(si h.a h.b++(si (h.a+h.b) h.b++([List.range' (h.a+h.b) (h.b+1),List.range' (h.a+h.b) (h.b+2)]++(si (h.p1+1) h.a++[List.range' (h.p1+1) (h.a+1),List.range' (h.p1+1) (h.a+2),List.range h.a++[h.e0],List.range h.a++(List.range' (h.a+h.b) (h.b+2)++[h.e0,h.e0+1]),List.range (h.p1+1)++[h.e0,h.e0+1,h.e0+2],List.range h.n]))))
def ix(h:Sh4):List Nat:=List.range (h.e0+1)++[h.e0+2]
end Sh4
section
variable {α:Type} (h:Sh4) (Y:Ty α) (E:TypeId) (q q1 q2:List (List α)) (g:Gh) (x y:Int)
def swp(z:Int):Value:=.pointer (some ⟨ab g.a,ao g.a+z.toNat*1,none⟩)
def uT(z:Int):Value:=.slice (g.s z.toNat 0).a (gi q z).length (g.s z.toNat 0).c
def B7:List Value:=(.slice g.a q.length g.c::(h.ca++[.int .i64 x]))++((.slice g.a q.length g.c::(h.cb++[.int .i64 y]))++((.slice g.a q.length g.c::(h.cb++[.int .i64 y,swp g y,uT q g y]))++((.slice g.a q.length g.c::(h.ca++[.int .i64 x,swp g x,uT q g x]))++[swp g x,undef,swp g y,undef])))
def rb(o:Gm):List (List a8):=List.replicate h.p1 []++([.im Y (gi q y) (g.s y.toNat 0)]::(List.replicate (h.a+1) []++[[.im Y (gi q x) (g.s x.toNat 0)],[],[.own E (Ty.sl Y) q1 (.mk g.a g.c (o (h.e0+1) 0).s)],[],[.own E (Ty.sl Y) q2 (.mk g.a g.c (o (h.e0+3) 0).s)]]))
def ZW(i:Nat):List Value:=cond (Nat.beq i h.p1) [uT q g y] (cond (Nat.beq i (h.e0-1)) [uT q g x] [])
def ZX(i:Nat):Option Ob:=cond (Nat.beq i h.p1) (some (cd ⟨ab g.a,ao g.a+y.toNat*1,none⟩ (uT q g y))) (cond (Nat.beq i (h.e0-1)) (some (cd ⟨ab g.a,ao g.a+x.toNat*1,none⟩ (uT q g x)))
  (cond (Nat.beq i (h.p1-1)||Nat.beq i (h.e0+2)) (some λ_=>dW g.a∧0≤y∧y<ln q) (cond (Nat.beq i (h.e0-2)||Nat.beq i h.e0) (some λ_=>dW g.a∧0≤x∧x<ln q) none)))
/-- An operation that stores. -/
def Sd(P:Program)(l:SF)(all:List Oper)(i:Nat)(p v:Value):Prop:=∃t x y ty pos after,all[i]?=some ⟨none,.store t x y,ty,pos,after,none⟩∧ev l [] x=some p∧ev l [] y=some v∧(P.info? t).map (·.size)=some 1
def N9(all:List Oper)(l:SF)(i:Nat):SF:=Dp all (B7 h q g x y) i (h.S.getD i [])++l
def SwH(P:Program)(n:Nat)(all:List Oper)(l:SF)(L:List a8):Prop:=
  P.follows .mixedOrders=true∧(r6 n l all&&(xJ all&&(xN h.n (L.length+1) all h.U h.C h.S&&(all.all (λo=>o.guard.isNone)&&Nat.beq all.length h.n))))=true∧
  (h.ix.map λi=>(all[i]?).bind λo=>AV P (N9 h q g x y all l i) [] o.op (ZW h q g x y i))=h.ix.map (λi=>some ⟨(B7 h q g x y).getD i undef,[],ZX h q g x y i⟩)∧
  Sd P (N9 h q g x y all l (h.e0+1)) all (h.e0+1) (swp g x) (uT q g y)∧Sd P (N9 h q g x y all l (h.e0+3)) all (h.e0+3) (swp g y) (uT q g x)∧
  ∀o,cO h.n (rb h Y E q q1 q2 g x y) (.own E (Ty.sl Y) q g::L) o (uF h.n (L.length+1) h.C)=.im Y (gi q y) (g.s y.toNat 0)::.im Y (gi q x) (g.s x.toNat 0)::.own E (Ty.sl Y) q2 (.mk g.a g.c (o (h.e0+3) 0).s)::L
end
section
variable {n:Nat} {M:Av} {X:List Nat} {w0:World} {L:List a8} {N R:dY} {ES:List (Nat×dY)} {P:Program} {all:List Oper} {id:Nat} {α:Type} {Y:Ty α} {E:TypeId} {l:SF} {g:Gh}
theorem uX(h:Sh4)(s:Nat){q q1 q2:List (List α)}{x y:Int}(hx:0≤x∧x<ln q)(hy:0≤y∧y<ln q)(e1:q1=bN q x (gi q y))(Na:0≤y∧y<ln q1)(e2:q2=bN q1 y (gi q x))
  (k:∀g':Gh,g'.a=g.a∧g'.c=g.c∧q2.length=q.length→T [] n M X w0 ((s,[],.slice g'.a q2.length g'.c)::dl [s] l) (.own E (Ty.sl Y) q2 g'::L) N)
  (hk:aR l (s::ky (dl [s] l))=some ((s,[],.slice g.a q.length g.c)::dl [s] l):=by kernel_rfl)
  (o:SwH h Y E q q1 q2 g x y P n all ((s,[],.slice g.a q.length g.c)::dl [s] l) L:=by exact⟨by kernel_rfl,by kernel_rfl,by kernel_rfl,⟨_,_,_,_,_,_,rfl,by kernel_rfl,by kernel_rfl,by kernel_rfl⟩,⟨_,_,_,_,_,_,rfl,by kernel_rfl,by kernel_rfl,by kernel_rfl⟩,by intro _;kernel_rfl⟩):
  T [] n M X w0 l (.own E (Ty.sl Y) q g::L) λa w=>(Code.region id all.toArray true).wp P (Qs N ES R) a w:=by
 intro a w H hS;replace H:=aw.aR H hk;clear hk;generalize dl [s] l=l at*;obtain⟨hm,j4,hp,h1,h2,hf⟩:=o;simp only[Bool.and_eq_true]at j4;obtain⟨k1,k2,k3,k4,k5⟩:=j4;have he:=λi (hi:ic h.ix i=true)=>List.map_inj_left.1 hp i (qA.1 hi);have hl:q2.length=q.length:=by rw[e2,tL,e1,tL]
 refine Dq h.n (L.length+1) (λ_=>B7 h q g x y) (rb h Y E q q1 q2 g x y) h.U h.C h.S [] H (λ_ _ h=>by cases h) rfl hS hm (Nat.eq_of_beq_eq_true k5) rfl k1 k2 k3 (mW k4 _ _) ?_ (λa' w' yg H' _ hS=>?_) ?_
 rotate_left
 · rw[hf]at hS;refine k (.mk g.a g.c (yg (h.e0+3) 0).s) ⟨rfl,rfl,hl⟩ _ _ ?_ hS.ZV.ZV;rw[hl];exact H'
 · cases h<;>repeat (first|exact trivial|refine And.intro (λ_=>And.intro rfl (by kernel_rfl)) ?_)
 have HL:∀{i:Nat}{z:Int},ic h.ix i=true→0≤z∧z<ln q→(B7 h q g x y).getD i undef=uT q g z→ZW h q g x y i=[uT q g z]→ZX h q g x y i=some (cd ⟨ab g.a,ao g.a+z.toNat*1,none⟩ (uT q g z))→h.U.getD i []=[h.n]→h.C.getD i []=[]→Nat.blt h.n h.n=false→(∀y',(rb h Y E q q1 q2 g x y y').getD i []=[.im Y (gi q z) (g.s z.toNat 0)])→
   ∀o,all[i]?=some o→∀a' w' (y':Gm) M',aw [] n ((s,[],.slice g.a q.length g.c)::l) a'→(∀j∈h.S.getD i [],j≠i→∀d,dM all j=some d→a'.tmps[d]?=some ((B7 h q g x y).getD j undef))→(∀(k:Nat) e,([]:List (Nat×Nat×Value))[k]?=some e→(Nat.beq e.2.1 i||reach all h.n e.2.1 i)=true→a'.tmps[e.1]?=some e.2.2)→S0 M' (cO h.n (rb h Y E q q1 q2 g x y) (.own E (Ty.sl Y) q g::L) y' (h.U.getD i [])) w'→
   bh P (tM o) a' w' λv w2=>∃g':Nat→Gh,(∀d,dM all i=some d→v=(B7 h q g x y).getD i undef)∧SH M' (ay (cO h.n (rb h Y E q q1 q2 g x y) (.own E (Ty.sl Y) q g::L) y' (h.U.getD i []))) w' ((rb h Y E q q1 q2 g x y (dK y' i g')).getD i []++cO h.n (rb h Y E q q1 q2 g x y) (.own E (Ty.sl Y) q g::L) y' ((h.U.getD i []).filter λj=>!(ic (h.C.getD i []) j))) w2:=by
  intro i z hi hz c1 c2 c3 c4 c5 c6 c7 o ho a' w' y' M' Hb hv _ hS;have hr:cO h.n (rb h Y E q q1 q2 g x y) (.own E (Ty.sl Y) q g::L) y' [h.n]=[.own E (Ty.sl Y) q g]:=by
   rw[cO,c6,Nat.sub_self];rfl
  rw[c4,hr]at hS;rw[c4,c5,show([h.n].filter λj=>!(ic [] j))=[h.n]from rfl,hr];have hh:=he i hi;rw[ho,Option.bind_some,c1,c2,c3]at hh;obtain⟨d,op,ty,pos,after,gd⟩:=o;refine bh.mono (oC (o:=⟨d,op,ty,pos,after,none⟩) [uT q g z] _ _ [] (N4 Hb _ hv) rfl hh (λp e=>by cases e;exact(hS.cD 0 rfl).cd hz 0 rfl)) ?_;rintro v w2 ⟨rfl,hq⟩;refine⟨gL [],λ_ _=>c1.symm,?_⟩;rw[c7];exact(hS.below hq.below).fl (fk (((hS.below hq.below).ow (E:=E) (T:=Ty.sl Y) (l:=q) (g:=g) 0 rfl).el hz))
 have HS:∀(i:Nat)(z:Int)(el:List α)(ge:Gh)(qa qb:List (List α))(ga:Gm→Gh),0≤z∧z<ln qa→qb=bN qa z el→(∀y',(ga y').a=g.a)→Sd P (N9 h q g x y all ((s,[],.slice g.a q.length g.c)::l) i) all i (swp g z) (.slice ge.a el.length ge.c)→(∀y',cO h.n (rb h Y E q q1 q2 g x y) (.own E (Ty.sl Y) q g::L) y' (h.U.getD i [])=[.im Y el ge,.own E (Ty.sl Y) qa (ga y')])→(∀y',cO h.n (rb h Y E q q1 q2 g x y) (.own E (Ty.sl Y) q g::L) y' ((h.U.getD i []).filter λj=>!(ic (h.C.getD i []) j))=[.im Y el ge])→(∀y' (g':Nat→Gh),(rb h Y E q q1 q2 g x y (dK y' i g')).getD i []=[.own E (Ty.sl Y) qb (.mk (ga y').a (ga y').c (g' 0).s)])→
   ∀o,all[i]?=some o→∀a' w' (y':Gm) M',aw [] n ((s,[],.slice g.a q.length g.c)::l) a'→(∀j∈h.S.getD i [],j≠i→∀d,dM all j=some d→a'.tmps[d]?=some ((B7 h q g x y).getD j undef))→(∀(k:Nat) e,([]:List (Nat×Nat×Value))[k]?=some e→(Nat.beq e.2.1 i||reach all h.n e.2.1 i)=true→a'.tmps[e.1]?=some e.2.2)→S0 M' (cO h.n (rb h Y E q q1 q2 g x y) (.own E (Ty.sl Y) q g::L) y' (h.U.getD i [])) w'→
   bh P (tM o) a' w' λv w2=>∃g':Nat→Gh,(∀d,dM all i=some d→v=(B7 h q g x y).getD i undef)∧SH M' (ay (cO h.n (rb h Y E q q1 q2 g x y) (.own E (Ty.sl Y) q g::L) y' (h.U.getD i []))) w' ((rb h Y E q q1 q2 g x y (dK y' i g')).getD i []++cO h.n (rb h Y E q q1 q2 g x y) (.own E (Ty.sl Y) q g::L) y' ((h.U.getD i []).filter λj=>!(ic (h.C.getD i []) j))) w2:=by
  intro i z el ge qa qb ga hz e ha lT c1 c2 c3 o ho a' w' y' M' Hb hv _ hS;obtain⟨t,xo,yo,ty,pos,after,r1,r2,r3,r4⟩:=lT;have RG:dM all i=none:=by unfold dM;rw[r1];rfl
  rw[r1]at ho;obtain rfl:=Option.some.inj ho;rw[c1]at hS;rw[c1,c2];have hd:=hS.hand [1,0] [0] rfl rfl;refine bh.mono (B1 (T:=Ty.sl Y) (g:=ga y') (q:=qa) (ix:=z) (off:=0) el (gL [ge]) (N4 Hb _ hv) hd r2 (by rw[ha]) (by rw[ha];rfl) r3 r4 rfl rfl hz rfl (hd.im 1 rfl) rfl) ?_;rintro v w2 ⟨s1,hq⟩;rw[←e]at hq;refine⟨gL [Gh.mk none 0 s1],λ_ h=>(by rw[RG]at h;cases h),?_⟩;rw[c3];exact hS.join [1,0] [0] rfl rfl hq
 rcases h with _|v|⟨u,v⟩|⟨s',t',u,v⟩
 all_goals repeat first
  |exact trivial
  |refine And.intro (bz (λ_=>he _ rfl)) ?_
  |refine And.intro (se (λ_ _=>[⟨none,λ_=>dW g.a∧0≤y∧y<ln q,λ_ hS=>(hS.cD 0 rfl).j3 hy⟩]) (λ_ _=>he _ rfl)) ?_
  |refine And.intro (se (λ_ _=>[⟨none,λ_=>dW g.a∧0≤x∧x<ln q,λ_ hS=>(hS.cD 0 rfl).j3 hx⟩]) (λ_ _=>he _ rfl)) ?_
  |refine And.intro (HL rfl hy rfl rfl rfl rfl rfl rfl (λ_=>rfl)) ?_
  |refine And.intro (HL rfl hx rfl rfl rfl rfl rfl rfl (λ_=>rfl)) ?_
  |refine And.intro (HS _ x (gi q y) (g.s y.toNat 0) q q1 (λ_=>g) hx e1 (λ_=>rfl) h1 (λ_=>rfl) (λ_=>rfl) (λ_ _=>rfl)) ?_
  |refine And.intro (se (λo _=>[⟨none,λ_=>dW g.a∧0≤y∧y<ln q,λ_ hS=>⟨((hS.cD (E:=E) (T:=Ty.sl Y) (l:=q1) 0 rfl).j3 Na).1,hy⟩⟩]) (λ_ _=>he _ rfl)) ?_
  |refine And.intro (HS _ y (gi q x) (g.s x.toNat 0) q1 q2 (λo=>.mk g.a g.c (o _ 0).s) Na e2 (λ_=>rfl) h2 (λ_=>rfl) (λ_=>rfl) (λ_ _=>rfl)) ?_
theorem rc{β γ δ:Type}{a a' a2:β}{b b' b2:γ}{c c' c2:δ}(h:a=a'∧b=b'∧c=c')(k:a'=a2∧b'=b2∧c'=c2):a=a2∧b=b2∧c=c2:=⟨h.1.trans k.1,h.2.1.trans k.2.1,h.2.2.trans k.2.2⟩
end
section
variable {D:List Deferred}
def po:Nat→List (a7×Value)→List MapEntry
 |_,[]=>[]
 |i,x::r=>⟨.string ⟨⟨x.1⟩⟩,x.2,i⟩::po (i+1) r
def Mp(w:World)(b:Nat)(l:List (a7×Value)):Prop:=w.heap[b]?=some (.map ⟨po 0 l⟩ l.length)
theorem Mp.lt{w:World}{b:Nat}{l:List (a7×Value)}(h:Mp w b l):b<w.heap.size:=by
 rcases Nat.lt_or_ge b w.heap.size with h1|h1
 ·exact h1
 ·unfold Mp at h;rw[Array.getElem?_eq_none h1]at h;cases h
theorem Mp.kp{w w':World}{b:Nat}{l:List (a7×Value)}{X:List Nat}(h:Mp w b l)(k:Kp X w w')(hX:b∉X):Mp w' b l:=(k.block b h.lt hX).trans h
def a8.uU(b:Nat)(l:List (a7×Value)):a8 where
 fp:=[b]
 p:=λ_ w=>Mp w b l
 kp:=λh k _ hX=>h.kp k (hX b (by simp))
 bS:=λh _=>h
 fresh:=λh=>h
 lt:=λh=>by simpa using h.lt
theorem ZY:∀(i:Nat)(l r:List (a7×Value)),po i (l++r)=po i l++po (i+l.length) r
 |i,[],r=>by simp[po]
 |i,x::l,r=>by
  rw[List.cons_append,po,ZY (i+1) l r,po,List.length_cons,show i+1+l.length=i+(l.length+1) by omega];rfl
def kx:List a7→a7→Nat
 |[],_=>0
 |x::r,s=>if s==x then 0 else kx r s+1
theorem Nb:∀(l:List a7)(s:a7),kx l s≤l.length
 |[],_=>by simp[kx]
 |x::r,s=>by
  unfold kx;split
  ·simp
  ·have:=Nb r s;simp;omega
def re(l:List a7)(s:a7):Int:=(kx l s:Int)
theorem a61(s t:a7):((⟨⟨s⟩⟩:ByteArray)==⟨⟨t⟩⟩)=(s==t):=by
 show((⟨s⟩:Array UInt8)==⟨t⟩)=(s==t);rw[Bool.eq_iff_iff,beq_iff_eq,beq_iff_eq];exact⟨λh=>by injection h,λh=>by rw[h]⟩
theorem Se:∀(l:List (a7×Value))(s:a7)(i j:Nat),Instr.findNow .string (.string ⟨⟨s⟩⟩) (po j l) i=some ((l[kx (l.map (·.1)) s]?).map λx=>(i+kx (l.map (·.1)) s,x.2))
 |[],s,i,j=>rfl
 |x::r,s,i,j=>by
  have ih:=Se r s (i+1) (j+1);rw[po,Instr.findNow];show(match(some ((⟨⟨s⟩⟩:ByteArray)==⟨⟨x.1⟩⟩):Option Bool)with
   |some true=>some (some (i,x.2))
   |some false=>Instr.findNow .string (.string ⟨⟨s⟩⟩) (po (j+1) r) (i+1)
   |none=>none)=_
  rw[a61,List.map_cons,kx];cases s==x.1 with
  |true=>simp
  |false=>
   simp only[ih,Bool.false_eq_true,if_false,List.getElem?_cons_succ];cases r[kx (r.map (·.1)) s]? with
   |none=>rfl
   |some y=>simp;omega
section
variable {P:Program} {a:Act} {w:World} {n:Nat} {l:SF} {M:Av}
theorem a62{w:World}{b:Nat}(o:Obj):Kp [b] w {w with heap:=w.heap.setIfInBounds b o}:=
 ⟨rfl,rfl,rfl,by simp,λk hk hx=>by
  have:k≠b:=by simpa using hx
  simp[Ne.symm this]⟩
theorem Sf{d:Option Tmp}{t:TypeId}{ty:TypeId}{pos:String}{after:Array Edge}(hS:S0 M [] w):
  bh P ⟨d,.makeMap t none,ty,pos,after,none⟩ a w λu w'=>∃b:Nat,u=.map (some b)∧SH M (ay []) w [.uU b []] w':=by
 refine bh.oz (v:=.map (some w.heap.size)) (w':=w.alloc (.map #[] 0)) ?_ ⟨w.heap.size,rfl,SH.step hS (Kp.xF ((Below.refl _ _).alloc (Nat.le_refl _) _) []) (by simp) (by simp[ay,a8.uU]) ?_⟩
 ·simp[execOp,run_makeMap_plain]
 ·intro e he;rw[List.mem_singleton]at he;subst he;show(w.heap.push (.map #[] 0))[w.heap.size]?=some (.map ⟨po 0 []⟩ 0);simp[po]
theorem va{t kt et:TypeId}{x y z:Operand}{ty:TypeId}{pos:String}{after:Array Edge}{b:Nat}{ls:List (a7×Value)}{k:a7}{v:Value}(H:aw D n l a)(hS:S0 M [.uU b ls] w)
  (hx:ev l [] x=some (.map (some b)))(hy:ev l [] y=some (.string ⟨⟨k⟩⟩))(hz:ev l [] z=some v)(hm:P.underlying t=some (.map kt et))(hk:P.underlying kt=some .string)(hn:kx (ls.map (·.1)) k=ls.length):
  bh P ⟨none,.insert t x y z,ty,pos,after,none⟩ a w λ_ w'=>SH M (ay [.uU b ls]) w [.uU b (ls++[(k,v)])] w':=by
 have hb:Mp w b ls:=SH.at hS 0 rfl;have hf:Instr.findNow .string (.string ⟨⟨k⟩⟩) (po 0 ls) 0=some none:=by
  rw[Se,hn,List.getElem?_eq_none (by omega)];rfl
 have hc:(Instr.checkKey false 10000 kt (.string ⟨⟨k⟩⟩)).run P w=.ok () w:=MapKept.run_checkKey (k:=.string ⟨⟨k⟩⟩) hk (by simp[MapKept.IsKey]) false 9999;refine bh.skip (w':={w with heap:=w.heap.setIfInBounds b (.map ⟨po 0 (ls++[(k,v)])⟩ (ls.length+1))}) ?_ rfl λ_=>SH.step hS ((a62 _).wide (by simp[ay,a8.uU])) (by simp) (by simp[ay,a8.uU]) ?_
 ·have he:(⟨po 0 ls⟩:Array MapEntry).push ⟨.string ⟨⟨k⟩⟩,v,ls.length⟩=⟨po 0 (ls++[(k,v)])⟩:=by
   rw[ZY];simp[po]
  simp[execOp,H.ev (eT a) hx,H.ev (eT a) hy,H.ev (eT a) hz,Instr.mapUpdate,run_underlying hm,MapKept.run_getObj_map hb,hc,MapKept.run_findKey hk hf,MapKept.run_setObj_map _ hb,Result.andThen,he]
 ·intro e he;rw[List.mem_singleton]at he;subst he;show(w.heap.setIfInBounds b _)[b]?=_;rw[Array.getElem?_setIfInBounds];simp[hb.lt]
theorem ZZ{t kt et:TypeId}{b:Nat}{ls:List (a7×Value)}{k:a7}{z:Value}(F:Int→Value)(hb:Mp w b ls)(hm:P.underlying t=some (.map kt et))(hk:P.underlying kt=some .string)(hz:(P.info? et).map (·.zero)=some (some z))
  (hF:ls.map (·.2)++[z]=(List.range (ls.length+1)).map λ(i:Nat)=>F (i:Int))(c:Bool):
  (Instr.lookup t (.map (some b)) (.string ⟨⟨k⟩⟩) c).run P w=.ok (if c then .tuple #[F (re (ls.map (·.1)) k),.bool (decide (re (ls.map (·.1)) k<(ls.length:Int)))]else F (re (ls.map (·.1)) k)) w:=by
 have xD:(zeroValue et).run P w=.ok z w:=by
  cases hi:P.info? et with
  |none=>simp[hi]at hz
  |some inf=>
   simp[hi]at hz;simp[zeroValue,typeInfo,hi,hz]
 have hc:∀e,(Instr.checkKey e 10000 kt (.string ⟨⟨k⟩⟩)).run P w=.ok () w:=λe=>MapKept.run_checkKey (k:=.string ⟨⟨k⟩⟩) hk (by simp[MapKept.IsKey]) e 9999;have hle:=Nb (ls.map (·.1)) k;rw[List.length_map]at hle;have hg:(ls.map (·.2)++[z])[kx (ls.map (·.1)) k]?=some (F (re (ls.map (·.1)) k)):=by
  rw[hF,List.getElem?_map,List.getElem?_range (by omega)];rfl
 have hf:=Se ls k 0 0;rcases Nat.lt_or_ge (kx (ls.map (·.1)) k) ls.length with h|h
 ·rw[List.getElem?_append_left (by simpa using h),List.getElem?_map,List.getElem?_eq_getElem h]at hg;have hg:=Option.some.inj hg;rw[List.getElem?_eq_getElem h]at hf;have hd:decide (re (ls.map (·.1)) k<(ls.length:Int))=true:=decide_eq_true (by unfold re;omega);rw[hd,←hg];simp[Instr.lookup,run_underlying hm,MapKept.run_getObj_map hb,hc,MapKept.run_findKey hk hf,Result.andThen]
 ·have he:kx (ls.map (·.1)) k=ls.length:=by omega
  rw[he,List.getElem?_append_right (by simp),List.length_map,Nat.sub_self]at hg;have hg:z=F (re (ls.map (·.1)) k):=Option.some.inj hg;rw[List.getElem?_eq_none (by omega)]at hf;have hd:decide (re (ls.map (·.1)) k<(ls.length:Int))=false:=decide_eq_false (by unfold re;omega);rw[hd,←hg];simp[Instr.lookup,run_underlying hm,MapKept.run_getObj_map hb,hc,MapKept.run_findKey hk hf,xD,Result.andThen]
theorem a00{d:Option Tmp}{t kt et:TypeId}{x y:Operand}{c:Bool}{ty:TypeId}{pos:String}{after:Array Edge}{b:Nat}{ls:List (a7×Value)}{k:a7}{z:Value}{ix:Int}(F:Int→Value)(u:Value)(H:aw D n l a)(hS:S0 M [.uU b ls] w)(FG:ix=re (ls.map (·.1)) k)
  (hu:(if c then .tuple #[F ix,.bool (decide (ix<(ls.length:Int)))]else F ix)=u)
  (hx:ev l [] x=some (.map (some b)))(hy:ev l [] y=some (.string ⟨⟨k⟩⟩))(hm:P.underlying t=some (.map kt et))(hk:P.underlying kt=some .string)(hz:(P.info? et).map (·.zero)=some (some z))
  (hF:ls.map (·.2)++[z]=(List.range (ls.length+1)).map λ(i:Nat)=>F (i:Int)):
  bh P ⟨d,.lookup t x y c,ty,pos,after,none⟩ a w λv w'=>v=u∧SH M (ay [.uU b ls]) w [.uU b ls] w':=by
 have hb:Mp w b ls:=SH.at hS 0 rfl;subst FG hu;refine bh.oz (w':=w) ?_ ⟨rfl,SH.step hS (Kp.refl _ _) (by simp) (by simp[ay,a8.uU]) λe he=>?_⟩
 ·simp[execOp,H.ev (eT a) hx,H.ev (eT a) hy,ZZ F hb hm hk hz hF c]
 ·rw[List.mem_singleton]at he;subst he;exact hb
end
end
section
variable {D:List Deferred}
abbrev Mi:=List (a7×Int)
def ll(ms:Mi):List (a7×Value):=ms.map λx=>(x.1,.int .i64 x.2)
def rf:Mi→a7→Bool
 |[],_=>false
 |x::r,s=>s==x.1||rf r s
def sv:Mi→a7→Int
 |[],_=>0
 |x::r,s=>cond (s==x.1) x.2 (sv r s)
theorem Sg:∀(ms:Mi)(s:a7),rf ms s=decide (kx ((ll ms).map (·.1)) s<(ll ms).length)
 |[],s=>by simp[rf,ll,kx]
 |x::r,s=>by
  have ih:=Sg r s;simp only[rf,ll,List.map_cons,kx,List.length_cons]at ih⊢;cases s==x.1 with
  |true=>simp
  |false=>simp only[Bool.false_or,ih];simp
theorem a01:∀(ms:Mi)(s:a7),((ll ms).map (·.2)++[.int .i64 0])[kx ((ll ms).map (·.1)) s]?=some (.int .i64 (sv ms s))
 |[],s=>rfl
 |x::r,s=>by
  have ih:=a01 r s;simp only[sv,ll,List.map_cons,kx,List.cons_append]at ih⊢;cases s==x.1 with
  |true=>rfl
  |false=>simpa[ll]using ih
def a8.aZ(b:Nat)(ms:Mi):a8:=.uU b (ll ms)
def a8.mpr(b:Nat)(ms:Mi):a8 where
 fp:=[]
 p:=λM w=>Mp w b (ll ms)∧¬M b
 kp:=λh k hM _=>⟨h.1.kp k (λhx=>h.2 (hM _ hx)),h.2⟩
 bS:=λh hM=>⟨h.1,λhb=>h.2 (hM _ hb)⟩
 fresh:=λh=>⟨h.1,λhb=>by
  rcases hb with hb|hb
  ·exact h.2 hb
  ·have:=h.1.lt;omega⟩
 lt:=λ_ b hb=>by cases hb
section
variable {M:Av} {X:List Nat} {w0 w:World} {L:List a8}
theorem SH.mi(h:SH M X w0 L w)(k:Nat){b:Nat}{ms:Mi}(hk:L[k]?=some (.aZ b ms)):Mp w b (ll ms):=h.at k hk
theorem SH.mr(h:SH M X w0 L w)(k:Nat){b:Nat}{ms:Mi}(hk:L[k]?=some (.mpr b ms)):Mp w b (ll ms):=(h.at k hk).1
theorem sy(h:S0 F0 L w∧ay L=[]){b:Nat}{ms:Mi}(hs:Mp w b (ll ms)):S0 F0 (.mpr b ms::L) w∧ay (.mpr b ms::L)=[]:=by
 refine⟨?_,by simp only[ay,h.2];rfl⟩;have h1:SH F0 (ay (.mpr b ms::L)) w L w:=by
  have:ay (.mpr b ms::L)=ay L:=by simp[ay,a8.mpr]
  rw[this];exact h.1
 refine h1.add rfl ⟨hs,λhb=>?_⟩;rcases hb with hb|hb
 ·exact hb.elim
 ·rw[h.2]at hb;cases hb
end
section
variable {P:Program} {a:Act} {w:World} {n:Nat} {l:SF} {M:Av}
theorem a63{d:Option Tmp}{t:TypeId}{ty:TypeId}{pos:String}{after:Array Edge}(hS:S0 M [] w):
  bh P ⟨d,.makeMap t none,ty,pos,after,none⟩ a w λu w'=>∃b:Nat,u=.map (some b)∧SH M (ay []) w [.aZ b []] w':=Sf hS
theorem a64{t kt et:TypeId}{x y z:Operand}{ty:TypeId}{pos:String}{after:Array Edge}{b:Nat}{ms:Mi}{k:a7}{v:Int}(H:aw D n l a)(hS:S0 M [.aZ b ms] w)
  (hx:ev l [] x=some (.map (some b)))(hy:ev l [] y=some (.string ⟨⟨k⟩⟩))(hz:ev l [] z=some (.int .i64 v))(hm:P.underlying t=some (.map kt et))(hk:P.underlying kt=some .string)(hn:rf ms k=false):
  bh P ⟨none,.insert t x y z,ty,pos,after,none⟩ a w λ_ w'=>SH M (ay [.aZ b ms]) w [.aZ b (ms++[(k,v)])] w':=by
 have h1:kx ((ll ms).map (·.1)) k=(ll ms).length:=by
  rw[Sg]at hn;have h2:=Nb ((ll ms).map (·.1)) k;rw[List.length_map]at h2;have:=of_decide_eq_false hn;omega
 have h2:=va (ty:=ty) (pos:=pos) (after:=after) H hS hx hy hz hm hk h1;have h3:ll ms++[(k,.int .i64 v)]=ll (ms++[(k,v)]):=by simp[ll]
 rw[h3]at h2;exact h2
theorem a65{t kt et:TypeId}{x y z:Operand}{ty:TypeId}{pos:String}{after:Array Edge}{b:Nat}{ms:Mi}{k:a7}{v:Int}(H:aw D n l a)(hS:S0 M [.aZ b ms] w)
  (hx:ev l [] x=some (.map (some b)))(hy:ev l [] y=some (.string ⟨⟨k⟩⟩))(hz:ev l [] z=some (.int .i64 v))(hm:P.underlying t=some (.map kt et))(hk:P.underlying kt=some .string)(hn:rf ms k=false):
  bh P ⟨none,.mapUpdate t x y z,ty,pos,after,none⟩ a w λ_ w'=>SH M (ay [.aZ b ms]) w [.aZ b (ms++[(k,v)])] w':=
 a64 (ty:=ty) (pos:=pos) (after:=after) H hS hx hy hz hm hk hn
theorem a02{t kt et:TypeId}{b:Nat}{ms:Mi}{k:a7}(hb:Mp w b (ll ms))(hm:P.underlying t=some (.map kt et))(hk:P.underlying kt=some .string)(hz:(P.info? et).map (·.zero)=some (some (.int .i64 0)))(c:Bool):
  (Instr.lookup t (.map (some b)) (.string ⟨⟨k⟩⟩) c).run P w=.ok (if c then .tuple #[.int .i64 (sv ms k),.bool (rf ms k)]else .int .i64 (sv ms k)) w:=by
 have h:=ZZ (P:=P) (λi=>(((ll ms).map (·.2)++[.int .i64 0])[i.toNat]?).getD undef) (k:=k) hb hm hk hz (by
  apply List.ext_getElem
  ·simp
  ·intro i h1 h2;simp only[List.getElem_map,List.getElem_range,Int.toNat_natCast];rw[List.getElem?_eq_getElem h1];rfl) c
 have h1:re ((ll ms).map (·.1)) k=(kx ((ll ms).map (·.1)) k:Int):=rfl;rw[h];simp only[h1,Int.toNat_natCast,a01,Option.getD_some];rw[Sg];simp only[Int.ofNat_lt]
theorem a66{d:Option Tmp}{t kt et:TypeId}{x y:Operand}{c:Bool}{ty:TypeId}{pos:String}{after:Array Edge}{b:Nat}{ms:Mi}{k:a7}(u:Value)(hu:(if c then .tuple #[.int .i64 (sv ms k),.bool (rf ms k)]else .int .i64 (sv ms k))=u)(H:aw D n l a)(hS:S0 M [.aZ b ms] w)
  (hx:ev l [] x=some (.map (some b)))(hy:ev l [] y=some (.string ⟨⟨k⟩⟩))(hm:P.underlying t=some (.map kt et))(hk:P.underlying kt=some .string)(hz:(P.info? et).map (·.zero)=some (some (.int .i64 0))):
  bh P ⟨d,.lookup t x y c,ty,pos,after,none⟩ a w λv w'=>v=u∧SH M (ay [.aZ b ms]) w [.aZ b ms] w':=by
 have hb:Mp w b (ll ms):=SH.mi hS 0 rfl;subst hu;refine bh.oz (w':=w) ?_ ⟨rfl,hS⟩;simp[execOp,H.ev (eT a) hx,H.ev (eT a) hy,a02 hb hm hk hz c]
theorem a03{d:Option Tmp}{t kt et:TypeId}{x y:Operand}{c:Bool}{ty:TypeId}{pos:String}{after:Array Edge}{b:Nat}{ms:Mi}{k:a7}(u:Value)(hu:(if c then .tuple #[.int .i64 (sv ms k),.bool (rf ms k)]else .int .i64 (sv ms k))=u)(H:aw D n l a)(hS:S0 M [.mpr b ms] w)
  (hx:ev l [] x=some (.map (some b)))(hy:ev l [] y=some (.string ⟨⟨k⟩⟩))(hm:P.underlying t=some (.map kt et))(hk:P.underlying kt=some .string)(hz:(P.info? et).map (·.zero)=some (some (.int .i64 0))):
  bh P ⟨d,.lookup t x y c,ty,pos,after,none⟩ a w λv w'=>v=u∧SH M (ay [.mpr b ms]) w [.mpr b ms] w':=by
 have hb:Mp w b (ll ms):=SH.mr hS 0 rfl;subst hu;refine bh.oz (w':=w) ?_ ⟨rfl,hS⟩;simp[execOp,H.ev (eT a) hx,H.ev (eT a) hy,a02 hb hm hk hz c]
end
end
section
variable {D:List Deferred}
def pkP(Ls:List a8)(M:Av)(w:World):Prop:=Ls.Pairwise (λ(e f:a8)=>Dj e.fp f.fp)∧∀e∈Ls,e.p M w
def a8.pk(Ls:List a8):a8 where
 fp:=ay Ls
 p:=pkP Ls
 kp:=λh k hM hX=>⟨h.1,λe he=>e.kp (h.2 e he) k hM λb hb=>hX b (jy.2 ⟨e,he,hb⟩)⟩
 bS:=λh hM=>⟨h.1,λe he=>e.bS (h.2 e he) hM⟩
 fresh:=λh=>⟨h.1,λe he=>e.fresh (h.2 e he)⟩
 lt:=λh b hb=>by
  obtain⟨e,he,IV⟩:=jy.1 hb;exact e.lt (h.2 e he) b IV
section
variable {M:Av} {X:List Nat} {w0 w:World} {L Ls:List a8}
theorem FQ:ay (a8.pk Ls::L)=ay (Ls++L):=by rw[Dg];rfl
theorem SH.pack(h:SH M X w0 (Ls++L) w):SH M X w0 (.pk Ls::L) w:=by
 have hn:=h.nd;rw[List.pairwise_append]at hn;have ha:∀b,dR M (.pk Ls::L) b→dR M (Ls++L) b:=λb hb=>by
  rcases hb with hb|hb
  ·exact .inl hb
  ·rw[FQ]at hb;exact .inr hb
 refine⟨h.kp,?_,λb hb=>h.lo b (by rw[←FQ];exact hb),λb hb=>h.nm b (by rw[←FQ];exact hb),h.mx,λe he=>?_⟩
 ·rw[List.pairwise_cons];refine⟨λf hf y hy yW=>?_,hn.2.1⟩;obtain⟨e,he,hye⟩:=jy.1 (show y∈ay Ls from hy);exact hn.2.2 e he f hf y hye yW
 ·rcases List.mem_cons.1 he with rfl|he
  ·exact⟨hn.1,λe he=>e.bS (h.ps e (List.mem_append_left _ he)) ha⟩
  ·exact e.bS (h.ps e (List.mem_append_right _ he)) ha
theorem SH.unpack(h:SH M X w0 (.pk Ls::L) w):SH M X w0 (Ls++L) w:=by
 have hn:=h.nd;rw[List.pairwise_cons]at hn;have hp:(a8.pk Ls).p (dR M (.pk Ls::L)) w:=h.ps _ List.mem_cons_self;have ha:∀b,dR M (Ls++L) b→dR M (.pk Ls::L) b:=λb hb=>by
  rcases hb with hb|hb
  ·exact .inl hb
  ·rw[←FQ]at hb;exact .inr hb
 refine⟨h.kp,?_,λb hb=>h.lo b (by rw[FQ];exact hb),λb hb=>h.nm b (by rw[FQ];exact hb),h.mx,λe he=>?_⟩
 ·rw[List.pairwise_append];exact⟨hp.1,hn.2,λe he f hf y hy yW=>hn.1 f hf y (jy.2 ⟨e,he,hy⟩) yW⟩
 ·rcases List.mem_append.1 he with he|he
  ·exact e.bS (hp.2 e he) ha
  ·exact e.bS (h.ps e (List.mem_cons_of_mem _ he)) ha
end
abbrev Hd(α:Type):=List α×Gh
def kS(α:Type):Ty (Hd α):=.flat 1 (λp=>[.slice p.2.a p.1.length p.2.c]) (λ_=>rfl) (λ_=>rfl)
def kT{α:Type}(E:TypeId)(T:Ty α)(qs:List (Hd α)):List a8:=qs.map λq=>.own E T q.1 q.2
def a8.o4{α:Type}(E:TypeId)(T:Ty α)(qs:List (Hd α)):a8:=.pk (kT E T qs)
section
variable {α:Type} {E E2:TypeId} {T:Ty α} {M:Av} {X:List Nat} {w0 w:World} {L:List a8} {qs:List (Hd α)}
theorem SH.a67(h:SH M X w0 L w):SH M X w0 (.o4 E T [(([]:List α),.nil)]::L) w:=SH.pack (Ls:=kT E T [([],.nil)]) (h.Db E T)
theorem SH.a68(h:SH M X w0 (.o4 E T qs::L) w):SH M X w0 (.o4 E T (qs++[([],.nil)])::L) w:=by
 have h1:=(SH.unpack h).Db E T;refine SH.pack (h1.perm ?_);show(a8.own E T ([]:List α) .nil::(kT E T qs++L)).Perm (kT E T (qs++[([],.nil)])++L);have e:kT E T (qs++[(([]:List α),Gh.nil)])++L=kT E T qs++a8.own E T ([]:List α) .nil::L:=by simp[kT]
 rw[e];exact List.perm_middle.symm
theorem a04{β:Type}:∀(l:List β)(k:Nat)(_:k<l.length),(l[k]::l.eraseIdx k).Perm l
 |_::_,0,_=>List.Perm.refl _
 |x::r,k+1,hk=>(List.Perm.swap _ _ _).trans ((a04 r k (by simpa using hk)).cons x)
theorem a05{β:Type}(q:β):∀(l:List β)(k:Nat)(_:k<l.length),(q::l.eraseIdx k).Perm (l.set k q)
 |_::_,0,_=>List.Perm.refl _
 |x::r,k+1,h=>(List.Perm.swap _ _ _).trans ((a05 q r k (by simpa using h)).cons x)
theorem a06{k:Nat}(hk:k<qs.length):(a8.own E T qs[k].1 qs[k].2::kT E T (qs.eraseIdx k)).Perm (kT E T qs):=
 (a04 qs k hk).map λq:Hd α=>a8.own E T q.1 q.2
theorem a07{k:Nat}(hk:k<qs.length)(q:Hd α):(a8.own E T q.1 q.2::kT E T (qs.eraseIdx k)).Perm (kT E T (qs.set k q)):=
 (a05 q qs k hk).map λq:Hd α=>a8.own E T q.1 q.2
theorem Sh{k:Int}(hk:0≤k∧k<ln qs):gi qs k=qs[k.toNat]'(by unfold ln at hk;omega):=by
 have h:k.toNat<qs.length:=by unfold ln at hk;omega
 simp[gi,List.getD_eq_getElem?_getD,List.getElem?_eq_getElem h]
theorem a69:V.ln (qs.map (·.1))=V.ln qs:=by simp[V.ln]
theorem a6a{k:Int}(hk:0≤k∧k<V.ln qs):gi (qs.map (·.1)) k=(gi qs k).1:=by
 rw[Sh hk];have h:k.toNat<qs.length:=by unfold V.ln at hk;omega
 simp[gi,List.getD_eq_getElem?_getD,List.getElem?_eq_getElem h]
theorem a08{k:Int}{p:Hd α}:bN (qs.map (·.1)) k p.1=(bN qs k p).map (·.1):=by simp[bN,List.map_set]
theorem a09{β:Type}{l:List β}{k:Int}{p q:β}:bN (bN l k p) k q=bN l k q:=by simp[bN]
theorem a6b{β:Type}[Inhabited β]{l:List β}{k:Int}{p:β}(hk:0≤k∧k<V.ln l):gi (bN l k p) k=p:=by
 have h:k.toNat<l.length:=by unfold V.ln at hk;omega
 simp[gi,bN,List.getD_eq_getElem?_getD,h]
theorem a6c{β:Type}{l:List β}{x y:β}:bN (l++[x]) (V.ln l) y=l++[y]:=by simp[bN,V.ln]
theorem a6d{k:Int}{p p':Hd α}(h:Value.slice p'.2.a p'.1.length p'.2.c=Value.slice p.2.a p.1.length p.2.c):(bN qs k p).map (λp:Hd α=>Value.slice p.2.a p.1.length p.2.c)=(bN (bN qs k p) k p').map λp:Hd α=>Value.slice p.2.a p.1.length p.2.c:=by
 rw[a09];simp only[bN,List.map_set,h]
theorem a0a:∀(qs:List (Hd α))(s:Nat→Nat→Gh)(t:Nat→Nat→Gh)(i:Nat),(∀j (h:j<qs.length),t (i+j) 0=qs[j].2)→
  ((dd (qs.map (·.1)) t i).map (fJ (Ty.sl T))).flatten=((dd qs s i).map (fJ (kS α))).flatten
 |[],_,_,_,_=>rfl
 |q::r,s,t,i,h=>by
  have h0:=h 0 (by simp);have ih:=a0a r s t (i+1) λj hj=>by
   have:=h (j+1) (by simpa using hj);rw[show i+1+j=i+(j+1) by omega];simpa using this
  simp only[List.map_cons,dd,List.flatten_cons,ih];congr 1;show[Value.slice (t i 0).a q.1.length (t i 0).c]=[Value.slice q.2.a q.1.length q.2.c];rw[show t i 0=q.2 from by simpa using h0]
theorem SH.a6e{k:Int}(hk:0≤k∧k<V.ln qs)(h:SH M X w0 (.o4 E T qs::L) w):SH M X w0 (.own E T (gi qs k).1 (gi qs k).2::.o4 E T (qs.eraseIdx k.toNat)::L) w:=by
 have FR:k.toNat<qs.length:=by unfold V.ln at hk;omega
 rw[Sh hk];have h1:SH M X w0 (kT E T (qs.eraseIdx k.toNat)++.own E T qs[k.toNat].1 qs[k.toNat].2::L) w:=(SH.unpack h).perm (((a06 FR).symm.append_right _).trans List.perm_middle.symm);exact(SH.pack (Ls:=kT E T (qs.eraseIdx k.toNat)) h1).perm (List.Perm.swap _ _ _)
theorem SH.a6f{k:Int}(hk:0≤k∧k<V.ln qs){q:List α}{g:Gh}(h:SH M X w0 (.own E T q g::.o4 E T (qs.eraseIdx k.toNat)::L) w):SH M X w0 (.o4 E T (bN qs k (q,g))::L) w:=by
 have FR:k.toNat<qs.length:=by unfold V.ln at hk;omega
 have h1:SH M X w0 (kT E T (qs.eraseIdx k.toNat)++.own E T q g::L) w:=SH.unpack (h.perm (List.Perm.swap _ _ _));exact SH.pack (Ls:=kT E T (bN qs k (q,g))) (h1.perm (List.perm_middle.trans ((a07 FR (q,g)).append_right _)))
theorem SH.a6g{rs:List (Hd α)}{g:Gh}(he:qs.map (λp=>Value.slice p.2.a p.1.length p.2.c)=rs.map λp=>Value.slice p.2.a p.1.length p.2.c)(h:SH M X w0 (.own E (kS α) qs g::L) w):SH M X w0 (.own E (kS α) rs g::L) w:=by
 have hz:∀(l:List (Hd α))(s:Nat→Nat→Gh)(i:Nat),((dd l s i).map (fJ (kS α))).flatten=l.map λp=>Value.slice p.2.a p.1.length p.2.c:=by
  intro l
  induction l with
  |nil=>intros;rfl
  |cons x r ih=>intro s i;simp only[dd,List.map_cons,List.flatten_cons,ih];rfl
 have hl:qs.length=rs.length:=by simpa using congrArg List.length he
 have hn:=h.nd;rw[List.pairwise_cons]at hn;refine⟨h.kp,List.pairwise_cons.2 ⟨λf hf=>hn.1 f hf,hn.2⟩,λb hb=>h.lo b hb,λb hb=>h.nm b hb,h.mx,λe FJ=>?_⟩;rcases List.mem_cons.1 FJ with rfl|FJ
 ·have ho:kq E (kS α) (dR M (.own E (kS α) qs g::L)) w qs g:=h.ow 0 rfl;refine⟨⟨?_,ho.ow.lt,by have:=ho.ow.ln;rw[gm]at this⊢;rw[←hl];exact this⟩,λi hi=>trivial⟩;have hr:=ho.ow.row;rw[gm,hz]at hr⊢;rw[←hl,←he];exact hr
 ·exact h.ps e (List.mem_cons_of_mem _ FJ)
theorem SH.a6h{g:Gh}(h:SH M X w0 (.own E (kS α) qs g::.o4 E2 T qs::L) w):SH M X w0 (.own E (Ty.sl T) (qs.map (·.1)) (.mk g.a g.c λi _=>(qs.getD i ([],.nil)).2)::L) w:=by
 have h1:SH M X w0 (.own E (kS α) qs g::(kT E2 T qs++L)) w:=by
  have h2:=SH.unpack (h.perm (List.Perm.swap _ _ _));exact h2.perm List.perm_middle
 have hn:=h1.nd;rw[List.pairwise_cons,List.pairwise_append]at hn;obtain⟨IZ,qq,qt,Yx⟩:=hn;have ho:kq E (kS α) (dR M (.own E (kS α) qs g::(kT E2 T qs++L))) w qs g:=h1.ow 0 rfl;have uw:∀{b},b∈ay (a8.own E (Ty.sl T) (qs.map (·.1)) (.mk g.a g.c λi _=>(qs.getD i ([],.nil)).2)::L)→b∈ay (.own E (kS α) qs g::(kT E2 T qs++L)):=λ{b} hb=>by
  simp only[ay,List.mem_append]at hb⊢;rcases hb with hb|hb
  ·exact .inl hb
  ·right;rw[Dg];exact List.mem_append_right _ hb
 have ha:∀b,dR M (.own E (Ty.sl T) (qs.map (·.1)) (.mk g.a g.c λi _=>(qs.getD i ([],.nil)).2)::L) b→dR M (.own E (kS α) qs g::(kT E2 T qs++L)) b:=λb hb=>by
  rcases hb with hb|hb
  ·exact .inl hb
  ·exact .inr (uw hb)
 refine⟨h1.kp,?_,λb hb=>h1.lo b (uw hb),λb hb=>h1.nm b (uw hb),h1.mx,λe he=>?_⟩
 ·rw[List.pairwise_cons];exact⟨λf hf=>IZ f (List.mem_append_right _ hf),qt⟩
 ·rcases List.mem_cons.1 he with rfl|he
  ·have hl:(dd (qs.map (·.1)) (λi (_:Nat)=>(qs.getD i (([]:List α),Gh.nil)).2) 0).length=(dd qs g.s 0).length:=by rw[gm,gm,List.length_map]
   have hf:=a0a (T:=T) qs g.s (λi (_:Nat)=>(qs.getD i (([]:List α),Gh.nil)).2) 0 λj hj=>by
    simp[List.getD_eq_getElem?_getD,List.getElem?_eq_getElem hj]
   refine⟨⟨?_,ho.ow.lt,by rw[show(Gh.mk g.a g.c λi (_:Nat)=>(qs.getD i (([]:List α),Gh.nil)).2).s=λi (_:Nat)=>(qs.getD i (([]:List α),Gh.nil)).2 from rfl,hl];exact ho.ow.ln⟩,λi hi=>?_⟩
   ·have hr:=ho.ow.row;show w.ownsRow 0 E 1 (.slice g.a (dd (qs.map (·.1)) (λi (_:Nat)=>(qs.getD i (([]:List α),Gh.nil)).2) 0).length g.c) (dd (qs.map (·.1)) (λi (_:Nat)=>(qs.getD i (([]:List α),Gh.nil)).2) 0).length ((dd (qs.map (·.1)) (λi (_:Nat)=>(qs.getD i (([]:List α),Gh.nil)).2) 0).map (fJ (Ty.sl T))).flatten;rw[hl,hf];exact hr
   ·rw[List.length_map]at hi;have hm:a8.own E2 T qs[i].1 qs[i].2∈kT E2 T qs:=List.mem_map.2 ⟨qs[i],List.getElem_mem hi,rfl⟩;have hq:kq E2 T (dR M (.own E (kS α) qs g::(kT E2 T qs++L))) w qs[i].1 qs[i].2:=h1.ps _ (List.mem_cons_of_mem _ (List.mem_append_left _ hm));have:=hq.sl (M':=dR M (.own E (Ty.sl T) (qs.map (·.1)) (.mk g.a g.c λi _=>(qs.getD i ([],.nil)).2)::L)) (λb hb hx=>?_) ha
    ·show aP T _ w (qs.map (·.1))[i] (qs.getD i ([],.nil)).2;rw[List.getElem_map,List.getD_eq_getElem?_getD,List.getElem?_eq_getElem hi];exact this
    ·rcases hx with hx|hx
     ·exact h1.nm b (jy.2 ⟨_,List.mem_cons_of_mem _ (List.mem_append_left _ hm),hb⟩) hx
     ·simp only[ay,List.mem_append]at hx;rcases hx with hx|hx
      ·exact IZ _ (List.mem_append_left _ hm) b hx hb
      ·obtain⟨f,Si,J0⟩:=jy.1 hx;exact Yx _ hm f Si b hb J0
  ·exact e.bS (h1.ps e (List.mem_cons_of_mem _ (List.mem_append_right _ he))) ha
end
section
variable {P:Program} {a:Act} {w:World} {n:Nat} {l:SF} {M:Av}
theorem a0b{α:Type}{T:Ty α}{d:Nat}{s x:Operand}{t ty e e2:TypeId}{pos:String}{after:Array Edge}{zv:Value}{qs:List (Hd α)}{g2:Gh}{n1 n2 c1 c2:Nat}{a1 a2:Option Addr}{l2:List α}{k:Int}(hk:0≤k∧k<ln qs)(q:List α)(hq:(gi qs k).1++l2=q)(H:aw D n l a)(hS:S0 M [.o4 e T qs,.own e2 T l2 g2] w)
  (hs:ev l [] s=some (.slice a1 n1 c1))(hx:ev l [] x=some (.slice a2 n2 c2))(uy:(gi qs k).2.a=a1)(pN:(gi qs k).2.c=c1)(Dd:g2.a=a2)(qq:(gi qs k).1.length=n1)(qt:l2.length=n2)
  (hu:P.underlying t=some (.slice e))(hi:(P.info? e).map (λi=>(i.size,Nat.ble i.bytes 1024,i.zero))=some (T.z,true,some zv))(pK:zv.cells.size=T.z)(hz:Nat.blt 0 T.z=true)
  (hl:V.ln (gi qs k).1+V.ln l2≤137438953472):
  bh P ⟨some d,.call ⟨.builtin .append,#[s,x],#[t,t]⟩,ty,pos,after,none⟩ a w λv w'=>∃g:Gh,v=.slice g.a q.length g.c∧SH M (ay [.o4 e T qs,.own e2 T l2 g2]) w [.o4 e T (bN qs k (q,g)),.own e2 T l2 g2] w':=by
 have FR:k.toNat<qs.length:=by unfold ln at hk;omega
 rw[Sh hk]at hq uy pN qq hl;have h1:SH M (ay [.o4 e T qs,.own e2 T l2 g2]) w ([.own e T qs[k.toNat].1 qs[k.toNat].2,.own e2 T l2 g2]++kT e T (qs.eraseIdx k.toNat)) w:=by
  refine(SH.unpack (Ls:=kT e T qs) (L:=[.own e2 T l2 g2]) hS).perm ?_;refine((a06 FR).symm.append_right _).trans ?_;exact(List.perm_append_comm (l₁:=kT e T (qs.eraseIdx k.toNat)) (l₂:=[a8.own e2 T l2 g2])).cons _
 refine(B0 (P:=P) (T:=T) (d:=d) (ty:=ty) (pos:=pos) (after:=after) (zv:=zv) (g1:=qs[k.toNat].2) (g2:=g2) (l1:=qs[k.toNat].1) (l2:=l2) q hq H (SH.Zk h1) hs hx uy pN Dd qq qt hu hi pK hz hl).mono ?_;rintro v w' ⟨g,rfl,zg⟩;refine⟨g,rfl,?_⟩;have h2:=SH.Zl h1 zg;refine SH.pack (Ls:=kT e T (bN qs k (q,g))) (L:=[.own e2 T l2 g2]) (h2.perm ?_);refine List.Perm.trans ?_ ((a07 FR (q,g)).append_right [a8.own e2 T l2 g2]);exact(List.perm_append_comm (l₁:=[a8.own e2 T l2 g2]) (l₂:=kT e T (qs.eraseIdx k.toNat))).cons _
end
end
section
variable {D:List Deferred}
section
variable {P:Program} {a:Act} {w:World} {n:Nat} {l:SF} {M:Av}
theorem a0c{d:Nat}{s:Operand}{t e ty:TypeId}{pos:String}{after:Array Edge}{a1:Option Addr}{n1 c1:Nat}(H:aw D n l a)(hS:S0 M [] w)(hs:ev l [] s=some (.slice a1 n1 c1))(hu:P.underlying t=some (.slice e)):
  bh P ⟨some d,.call ⟨.builtin .cap,#[s],#[t]⟩,ty,pos,after,none⟩ a w λv w'=>v=.int .i64 (c1:Int)∧SH M (ay []) w [] w':=by
 refine bh.oz (v:=.int .i64 (c1:Int)) (w':=w) ?_ ⟨rfl,SH.step hS (Kp.refl _ _) (by simp) (by simp[ay]) (by intro e he;cases he)⟩;simp[execOp,resolve,invoke,builtin,Builtin.cap_,H.ev (eT a) hs,run_underlying hu,goInt]
theorem a6i{α:Type}{T:Ty α}{d:Nat}{s x:Operand}{t tn ty e:TypeId}{pos:String}{after:Array Edge}{zv:Value}{k:Int}{kn:IntKind}(H:aw D n l a)(hS:S0 M [] w)
  (hs:ev l [] s=some (.slice none 0 0))(hx:ev l [] x=some (.int .i64 k))(hu:P.underlying t=some (.slice e))(hn:P.underlying tn=some (.int kn))(hi:(P.info? e).map (λi=>(i.size,Nat.ble i.bytes 128,i.zero))=some (T.z,true,some zv))(pK:zv.cells.size=T.z)(hz:Nat.blt 0 T.z=true)
  (hk:0<k∧k≤137438953472):
  bh P ⟨some d,.call ⟨.builtin .append,#[s,x],#[t,tn]⟩,ty,pos,after,none⟩ a w λv w'=>∃g:Gh,v=.slice g.a k.toNat g.c∧SH M (ay []) w [.own e T ([]:List α) g] w':=by
 have AY:0<T.z:=by simpa[Nat.blt,Nat.lt_iff_add_one_le]using hz
 obtain⟨j,rfl⟩:∃j:Nat,k=j:=⟨k.toNat,by omega⟩;have hj:0<j∧j≤137438953472:=by omega
 cases mq:P.info? e with
 |none=>simp[mq]at hi
 |some inf=>
  simp only[mq,Option.map_some,Option.some.injEq,Prod.mk.injEq]at hi;obtain⟨h1,h2,h3⟩:=hi;have h2:inf.bytes≤128:=by simpa using h2
  have Z4:j*inf.bytes≤140737488355328:=Nat.le_trans (Nat.mul_le_mul hj.2 h2) (by decide);have hr:=Lib.run_append_nil_zeros (P:=P) w t tn ty e inf zv .i64 kn hu hn mq h3 j hj.1 (by omega) (by omega) (by omega);generalize hc:Builtin.zeroCells zv.cells j++Builtin.zeroCells zv.cells (grownCap w j 0 e-j)=cs at hr;have hge:=grownCap_ge w j 0 e;have kQ:cs.size=grownCap w j 0 e*T.z:=by
   rw[←hc,Array.size_append,size_zeroCells,size_zeroCells,pK,←Nat.add_mul];congr 1;omega
  have hN:=D6 w.drew cs.toList e;have hb:Below w.heap.size w w.drew:=⟨rfl,rfl,rfl,Nat.le_refl _,λ_ _=>rfl⟩;have Ru:Kp [] w (w.drew.alloc (.cells cs e)):=by
   refine⟨(hN.1.os).trans hb.os,(hN.1.tape).trans hb.tape,(hN.1.output).trans hb.output,?_,λq hq _=>(hN.1.block q hq (by simp)).trans (hb.block q hq)⟩;exact Nat.le_trans hb.size hN.1.size
  refine bh.oz (v:=.slice (some ⟨w.heap.size,0,none⟩) j (grownCap w j 0 e)) (w':=w.drew.alloc (.cells cs e)) ?_ ⟨.mk (some ⟨w.heap.size,0,none⟩) (grownCap w j 0 e) (λ_ _=>.nil),rfl,SH.step hS Ru (by simp) (by simp[ay,a8.own,Gh.a,gk]) ?_⟩
  ·simp[execOp,resolve,invoke,builtin,H.ev (eT a) hs,H.ev (eT a) hx,hr]
  ·intro f hf;rw[List.mem_singleton]at hf;subst hf;refine⟨⟨⟨by simp[dd],.inr ⟨w.heap.size,grownCap w j 0 e,cs,rfl,Nat.zero_le _,?_,Nat.zero_le _,grownCap_le_maxLen w j 0 e (by unfold maxLen;omega),kQ,by simp[dd]⟩⟩,?_,by simp[dd]⟩,λi hi=>by simp at hi⟩
   ·show(w.heap.push _)[w.heap.size]?=_;simp
   ·intro b hb;simp only[Gh.a,gk,List.mem_singleton]at hb;subst hb;show w.heap.size<(w.heap.push _).size;simp
theorem a0d{d:Nat}{t E ty:TypeId}{x hi:Operand}{pos:String}{after:Array Edge}{n0 c0 z:Nat}{a0:Option Addr}{k:IntKind}{L:List a8}(H:aw D n l a)(hS:S0 M L w)
  (hx:ev l [] x=some (.slice a0 n0 c0))(hh:ev l [] hi=some (.int k 0))(hu:P.underlying t=some (.slice E))(hz:(P.info? E).map (·.size)=some z):
  bh P ⟨some d,.slice t x none (some hi) none,ty,pos,after,none⟩ a w λv w'=>v=.slice a0 0 c0∧SH M (ay L) w L w':=by
 have kQ:(sizeOf E).run P w=.ok z w:=nz hz;have hb:(Instr.sliceBounds true n0 c0 none (some (.int k 0)) none).run P w=.ok (0,0,c0) w:=by
  simp[Instr.sliceBounds,Instr.sliceBound,asIntOf]
 have hm:(if c0=0 then a0 else a0.map (·.add 0))=a0:=by
  cases a0 with
  |none=>simp
  |some b=>simp only[Option.map_some];exact ite_self _
 refine bh.oz (v:=.slice a0 0 c0) (w':=w) ?_ ⟨rfl,hS⟩;simp[execOp,H.ev (eT a) hx,H.ev (eT a) hh,Instr.sliceAt,run_underlying hu,Instr.slice,hb,kQ,hm]
end
section
variable {P:Program} {ops:Array Oper} {Q:Exit→Act→World→Prop} {fuel i j:Nat} {o o2:Oper} {listed:Array Bool} {a:Act} {w:World}
theorem Sj{K:Value→World→Prop}(ho:ops[i]?=some o)(hg:o.guard=none)(hs:bh P o a w K)(hK:∀v w',K v w'→wpAny P .any ops Q fuel (listed.setIfInBounds i true) (a.put o.dst v) w'):wpOp P ops Q i (wpAny P .any ops Q fuel (listed.setIfInBounds i true)) a w:=by
 unfold wpOp;rw[ho];have hw:Region.wanted o (yielded ops a.tmps)=true:=by simp[Region.wanted,hg]
 simp only[hw,if_true];exact .inl (hs _ _ hK)
theorem Nc{K:Value→World→Prop}(hr:Region.ready .any ops listed=[i])(ho:ops[i]?=some o)(hg:o.guard=none)(hs:bh P o a w K)(hK:∀v w',K v w'→wpAny P .any ops Q fuel (listed.setIfInBounds i true) (a.put o.dst v) w'):wpAny P .any ops Q (fuel+1) listed a w:=by
 refine⟨λh=>(by rw[hr]at h;cases h),λk hk=>?_⟩;rw[hr,List.mem_singleton]at hk;subst hk;exact Sj ho hg hs hK
theorem a6j{K K2:Value→World→Prop}(hr:Region.ready .any ops listed=[i,j])(ho:ops[i]?=some o)(hg:o.guard=none)(Nd:ops[j]?=some o2)(Jc:o2.guard=none)(hs:bh P o a w K)(tG:bh P o2 a w K2)
  (hK:∀v w',K v w'→wpAny P .any ops Q fuel (listed.setIfInBounds i true) (a.put o.dst v) w')(hK2:∀v w',K2 v w'→wpAny P .any ops Q fuel (listed.setIfInBounds j true) (a.put o2.dst v) w'):wpAny P .any ops Q (fuel+1) listed a w:=by
 refine⟨λh=>(by rw[hr]at h;cases h),λk hk=>?_⟩;rw[hr]at hk;rcases List.mem_cons.1 hk with rfl|hk
 ·exact Sj ho hg hs hK
 ·rw[List.mem_singleton]at hk;subst hk;exact Sj Nd Jc tG hK2
end
theorem a6k{n:Nat}{M:Av}{X:List Nat}{w0:World}{l:SF}{N R:dY}{ES:List (Nat×dY)}{P:Program}{id d e:Nat}{E y0 y1 y2 y3:TypeId}{p0 p1 p2 p3:String}{a0 a1 a2 a3:Array Edge}{z:Code}{e1 e2 e3:a8}(ks:List Nat)(vs:List Value)
  (h:∀c:Bool,T D n M X w0 ((e,[],.bool c)::fz ks vs) [e1,e2,e3] λa w=>z.wp P (Qs N ES R) a w)
  (hk:∀u v,aR (nW (nW l d [] u) e [] v) (e::ks)=some ((e,[],v)::fz ks vs):=by exact λ_ _=>rfl)
  (hd:Nat.blt d n=true:=by rfl)(he:Nat.blt e n=true:=by rfl)(hx:∀u,ev (nW l d [] u) [] (.tmp d)=some u:=by exact λ_=>rfl)(ht:∀u c,ev (nW l d [] u) [] (.const (.bool c))=some (.bool c):=by exact λ_ _=>rfl)
  (hz:(P.info? E).map (·.zero)=some (some (.bool false)):=by kernel_rfl)(kQ:(P.info? E).map (·.size)=some 1:=by kernel_rfl)(hm:P.follows .mixedOrders=true:=by kernel_rfl)
  (hl:∀b c,AV P (nW l d [] (.pointer (some ⟨b,0,none⟩))) [] (.load E (.tmp d)) [.bool c]=some ⟨.bool c,[],some (V.cd ⟨b,0,none⟩ (.bool c))⟩:=by intros;kernel_rfl)
  (r0:Region.ready .any #[⟨some d,.alloc E,y0,p0,a0,none⟩,⟨none,.store E (.tmp d) (.const (.bool true)),y1,p1,a1,none⟩,⟨none,.store E (.tmp d) (.const (.bool false)),y2,p2,a2,none⟩,⟨some e,.load E (.tmp d),y3,p3,a3,none⟩] #[false,false,false,false]=[0]:=by kernel_rfl)
  (r1:Region.ready .any #[⟨some d,.alloc E,y0,p0,a0,none⟩,⟨none,.store E (.tmp d) (.const (.bool true)),y1,p1,a1,none⟩,⟨none,.store E (.tmp d) (.const (.bool false)),y2,p2,a2,none⟩,⟨some e,.load E (.tmp d),y3,p3,a3,none⟩] #[true,false,false,false]=[1,2]:=by kernel_rfl)
  (r2:Region.ready .any #[⟨some d,.alloc E,y0,p0,a0,none⟩,⟨none,.store E (.tmp d) (.const (.bool true)),y1,p1,a1,none⟩,⟨none,.store E (.tmp d) (.const (.bool false)),y2,p2,a2,none⟩,⟨some e,.load E (.tmp d),y3,p3,a3,none⟩] #[true,true,false,false]=[2]:=by kernel_rfl)
  (r3:Region.ready .any #[⟨some d,.alloc E,y0,p0,a0,none⟩,⟨none,.store E (.tmp d) (.const (.bool true)),y1,p1,a1,none⟩,⟨none,.store E (.tmp d) (.const (.bool false)),y2,p2,a2,none⟩,⟨some e,.load E (.tmp d),y3,p3,a3,none⟩] #[true,false,true,false]=[1]:=by kernel_rfl)
  (r4:Region.ready .any #[⟨some d,.alloc E,y0,p0,a0,none⟩,⟨none,.store E (.tmp d) (.const (.bool true)),y1,p1,a1,none⟩,⟨none,.store E (.tmp d) (.const (.bool false)),y2,p2,a2,none⟩,⟨some e,.load E (.tmp d),y3,p3,a3,none⟩] #[true,true,true,false]=[3]:=by kernel_rfl)
  (r5:Region.ready .any #[⟨some d,.alloc E,y0,p0,a0,none⟩,⟨none,.store E (.tmp d) (.const (.bool true)),y1,p1,a1,none⟩,⟨none,.store E (.tmp d) (.const (.bool false)),y2,p2,a2,none⟩,⟨some e,.load E (.tmp d),y3,p3,a3,none⟩] #[true,true,true,true]=[]:=by kernel_rfl):
  T D n M X w0 l [e1,e2,e3] λa w=>(Code.seq (.region id #[⟨some d,.alloc E,y0,p0,a0,none⟩,⟨none,.store E (.tmp d) (.const (.bool true)),y1,p1,a1,none⟩,⟨none,.store E (.tmp d) (.const (.bool false)),y2,p2,a2,none⟩,⟨some e,.load E (.tmp d),y3,p3,a3,none⟩] true) z).wp P (Qs N ES R) a w:=by
 intro a w H hS;refine AW (wp_region_any hm ?_);replace hS:=hS.below (⟨rfl,rfl,rfl,Nat.le_refl _,λ_ _=>rfl⟩:Below w.heap.size w {w with drawn:=w.drawn+1});generalize{w with drawn:=w.drawn+1}=w2 at hS⊢;refine Nc (fuel:=3) r0 rfl rfl (ux [.bool false] (z:=.bool false) (hS.hand [] [0,1,2] rfl rfl) hz rfl) ?_;rintro _ w3 ⟨b,rfl,hq⟩;have Nf:=hS.join [] [0,1,2] rfl rfl hq;have H1:=aw.set (H:=H) (v:=.pointer (some ⟨b,0,none⟩)) hd;clear hq hS H;have fin:∀(c:Bool)(a':Act)(w4:World),aw D n (nW l d [] (.pointer (some ⟨b,0,none⟩))) a'→SH M X w0 ([.lU b [.bool c]]++dV [e1,e2,e3] [0,1,2]) w4→wpAny P .any #[⟨some d,.alloc E,y0,p0,a0,none⟩,⟨none,.store E (.tmp d) (.const (.bool true)),y1,p1,a1,none⟩,⟨none,.store E (.tmp d) (.const (.bool false)),y2,p2,a2,none⟩,⟨some e,.load E (.tmp d),y3,p3,a3,none⟩] (Qs (λa w=>z.wp P (Qs N ES R) a w) ES R) 1 #[true,true,true,false] a' w4:=by
  intro c a' w4 H hS;refine Nc (fuel:=0) r4 rfl rfl (oC [.bool c] (.bool c) (some (V.cd ⟨b,0,none⟩ (.bool c))) [] H rfl (hl b c) (λq e=>by cases e;exact(hS.bk 0 rfl).cd rfl)) ?_;rintro _ w5 ⟨rfl,hq⟩;exact⟨r5,h c _ _ ((aw.set (H:=H) he).aR (hk _ _)) ((hS.below hq.below).aV [1,2,3] rfl)⟩
 refine a6j (fuel:=2) (i:=1) (j:=2) r1 rfl rfl rfl rfl (qy [.bool true] H1 (Nf.hand [0] [1,2,3] rfl rfl) (hx _) (ht _ _) kQ rfl rfl rfl) (qy [.bool false] H1 (Nf.hand [0] [1,2,3] rfl rfl) (hx _) (ht _ _) kQ rfl rfl rfl) ?_ ?_
 ·rintro _ w4 hq;have wv:=Nf.join [0] [1,2,3] rfl rfl hq;refine Nc (fuel:=1) r2 rfl rfl (qy [.bool false] H1 (wv.hand [0] [1,2,3] rfl rfl) (hx _) (ht _ _) kQ rfl rfl rfl) ?_;rintro _ w5 zg;exact fin false _ _ H1 (wv.join [0] [1,2,3] rfl rfl zg)
 ·rintro _ w4 hq;have wv:=Nf.join [0] [1,2,3] rfl rfl hq;refine Nc (fuel:=1) r3 rfl rfl (qy [.bool true] H1 (wv.hand [0] [1,2,3] rfl rfl) (hx _) (ht _ _) kQ rfl rfl rfl) ?_;rintro _ w5 zg;exact fin true _ _ H1 (wv.join [0] [1,2,3] rfl rfl zg)
end
theorem a0e{w:World}{b:Nat}{o:Obj}(h:w.heap[b]?=some o):b<w.heap.size:=by
 rcases Nat.lt_or_ge b w.heap.size with h'|h'
 ·exact h'
 ·rw[Array.getElem?_eq_none h']at h;cases h
theorem SH.gone{M:Av}{L:List a8}{w w':World}(h:S0 M L w)(k:Kp (ay L) w w'):SH M (ay L) w [] w':=SH.step h k (by simp) (by simp[ay]) (by simp)
def a8.aU(g:Nat)(cs:List Value):a8 where
 fp:=[]
 p:=λM w=>(∃T fr,w.heap[g]?=some (.cells ⟨cs⟩ T fr))∧¬M g
 kp:=λh k hM _=>⟨by obtain⟨⟨T,fr,h1⟩,h2⟩:=h;exact⟨T,fr,(k.block _ (a0e h1) (λhx=>h2 (hM _ hx))).trans h1⟩,h.2⟩
 bS:=λh hM=>⟨h.1,λhb=>h.2 (hM _ hb)⟩
 fresh:=λh=>⟨h.1,λhb=>by
  obtain⟨⟨T,fr,h1⟩,h2⟩:=h;rcases hb with hb|hb
  ·exact h2 hb
  ·have:=a0e h1;omega⟩
 lt:=λ_ b hb=>by cases hb
def my:Nat→Nat→a7
 |0,_=>[]
 |k+1,u=>cond (Nat.blt u 10) [UInt8.ofNat (48+u)] (my k (u/10)++[UInt8.ofNat (48+u%10)])
def Jd(n:Int):a7:=cond (decide (n<0)) (45::my 20 n.natAbs) (my 20 n.toNat)
theorem a6l{u:Nat}(h:¬u<10):Nat.blt u 10=false:=by
 cases hb:Nat.blt u 10 with
 |false=>rfl
 |true=>exact absurd (by simpa[Nat.blt,Nat.lt_iff_add_one_le]using hb) h
theorem Sk:∀(k u:Nat),u<10^(k+1)→my (k+1) u=Lib.decDigits u
 |0,u,h=>by
  have h:u<10:=by simpa using h
  rw[Lib.decDigits,dif_pos h,my,show Nat.blt u 10=true from by simpa[Nat.blt,Nat.lt_iff_add_one_le]using h];rfl
 |k+1,u,h=>by
  by_cases hu:u<10
  ·rw[Lib.decDigits,dif_pos hu,my,show Nat.blt u 10=true from by simpa[Nat.blt,Nat.lt_iff_add_one_le]using hu];rfl
  ·rw[Lib.decDigits,dif_neg hu,my,a6l hu];rw[show(cond false [UInt8.ofNat (48+u)] (my (k+1) (u/10)++[UInt8.ofNat (48+u%10)]))=my (k+1) (u/10)++[UInt8.ofNat (48+u%10)]from rfl,
    Sk k (u/10) (by rw[Nat.pow_succ]at h;omega)]
theorem a6m{n:Int}(h:-9223372036854775808≤n∧n≤9223372036854775807):Jd n=Lib.itoa n:=by
 unfold Jd Lib.itoa;by_cases hn:n<0
 ·rw[if_pos hn,show decide (n<0)=true from by simpa using hn,Sk 19 n.natAbs (by omega)];rfl
 ·rw[if_neg hn,show decide (n<0)=false from by simpa using hn,Sk 19 n.toNat (by omega)];rfl
theorem a6n(w:World)(k:Nat)(os:Array Obj)(X:List Nat):Kp X w (Go.Sort.grow (w.drewN k) os):=
 ⟨rfl,rfl,rfl,by simp[Go.Sort.grow,World.drewN],λi hi _=>by
  show((w.drewN k).heap++os)[i]?=_;rw[Array.getElem?_append_left (by show i<w.heap.size;omega)];rfl⟩
theorem lm{w:World}{L:List a8}(h:S0 F0 L w∧ay L=[]){g:Nat}{cs:List Value}{M:Av}(hs:(a8.aU g cs).p M w):S0 F0 (.aU g cs::L) w∧ay (.aU g cs::L)=[]:=by
 have he:ay (.aU g cs::L)=[]:=by simp[ay,a8.aU,h.2]
 refine⟨?_,he⟩;have tG:SH F0 (ay L) w (.aU g cs::L) w:=h.1.add rfl ⟨hs.1,λhm=>by
  rcases hm with hm|hm
  ·exact hm
  ·rw[h.2]at hm;cases hm⟩
 rw[h.2]at tG;show SH F0 (ay (.aU g cs::L)) w _ w;rw[he];exact tG
end Go.V
namespace Go.Proofs.YtfinnnfdojhmnaaGreatDoor
open Go.V Go.RowKit
theorem a6o{w:World}{M:Av}(h:(a8.aU 0 (Lib.pow10Tab.map λz=>Value.int .u64 z)).p M w):Lib.TabIs Tryz.prog w "internal/strconv.uint64pow10" .u64 Lib.pow10Tab:=by
 obtain⟨⟨T,fr,h1⟩,_⟩:=h;unfold Lib.TabIs World.var?;rw[show Tryz.prog.globalNamed "internal/strconv.uint64pow10" =some 0 from by kernel_rfl,Option.bind_some,h1]
def B8(n:Int):Option a7:=aH (-9223372036854775808≤n∧n≤9223372036854775807) (some (Jd n))
theorem a0f(n:Int)(r:a7)(hm:B8 n=some r)(w:World)(hL:S0 F0 [a8.aU 0 (Lib.pow10Tab.map λz=>Value.int .u64 z)] w∧ay [a8.aU 0 (Lib.pow10Tab.map λz=>Value.int .u64 z)]=[]):
  kP Tryz.prog 29 ⟨[.int .i64 n]⟩ (.string ⟨⟨r⟩⟩) w:=by
 obtain⟨h,hm⟩:=bW hm;obtain rfl:=cy hm;refine iC (L:=[a8.aU 0 (Lib.pow10Tab.map λz=>Value.int .u64 z)]) hL (Tryz.call29 _) λw' hS=>?_;rw[a6m h];refine(Tryz.strconv_Itoa n h.1 h.2 w' (a6o (hS.at 0 rfl))).mono ?_;rintro e w2 ⟨rfl,k,os,rfl⟩;refine⟨_,rfl,rfl,?_⟩;exact SH.gone hS (a6n w' k os _)
end Go.Proofs.YtfinnnfdojhmnaaGreatDoor
namespace Go.V
open Go Go.RowKit
theorem a6p{P:Program}{W:World}{name:String}{g:Nat}{cs:Array Value}(hg:P.globalNamed name=some g)(h:W.var? P name=some cs):∃T fr,W.heap[g]?=some (.cells cs T fr):=by
 unfold World.var? at h;rw[hg,Option.bind_some]at h;split at h
 ·rename_i Dc T fr he;exact⟨T,fr,by rw[he,Option.some.inj h]⟩
 ·cases h
theorem a6q{P:Program}{W:World}{name:String}{k:IntKind}{zs:List Int}{g:Nat}{t e:TypeId}{n:Nat}
  (hg:P.globalNamed name=some g)(RR:(P.globals[g]?).map (·.type)=some t)(ht:P.underlying t=some (.array n e))(he:P.underlying e=some (.int k))(IG:P.cellsOf e=1)(RS:P.cellsOf t=n)
  (h:Lib.VarReads P W name (Lib.tabData k zs)):(a8.aU g (zs.map λz=>Value.int k z)).p F0 W:=by
 obtain⟨g',t',cs,fuel,p,xH,RT,RU,hd⟩:=h;obtain rfl:=Option.some.inj (hg.symm.trans xH);obtain rfl:=Option.some.inj (RR.symm.trans RT);have hc:=Lib.cells_of_tab ht he IG RS hd;obtain⟨T,fr,hh⟩:=a6p hg RU;refine⟨⟨T,fr,?_⟩,λh=>h⟩;obtain⟨l⟩:=cs;have hc:l=zs.map λz=>Value.int k z:=hc;rw[hh,hc]
end Go.V
namespace Go.V
open Go
theorem nB{x:Int}(h:-9223372036854775808≤x)(h':x<9223372036854775808):J x=x:=by
 show IntKind.i64.wrap x=x;unfold IntKind.wrap;simp only[IntKind.bits,IntKind.signed,Bool.true_and];split<;>rename_i hh<;>simp only[ge_iff_le,decide_eq_true_eq]at hh<;>omega
theorem j6{α:Type}[Inhabited α](l:List α)(i:Nat)(h:i<l.length):gi l (i:Int)=l[i]:=by
 simp[gi,List.getD_eq_getElem?_getD,List.getElem?_eq_getElem h]
theorem a6r(s:a7)(i:Nat)(h:i<s.length):bR s (i:Int)=(s[i].toNat:Int):=by
 simp[bR,List.getD_eq_getElem?_getD,List.getElem?_eq_getElem h]
theorem a6s(x:Int):cF x=x%18446744073709551616:=by
 show IntKind.u64.wrap x=_;simp[IntKind.wrap,IntKind.bits,IntKind.signed]
theorem B9{x:Int}(h:0≤x)(h':x<18446744073709551616):cF x=x:=by rw[a6s];exact Int.emod_eq_of_lt h h'
theorem a0g(x:Int):cW x=x%256:=by
 show IntKind.u8.wrap x=_;simp[IntKind.wrap,IntKind.bits,IntKind.signed]
theorem a6t{x:Int}(h:0≤x)(h':x<256):cW x=x:=by rw[a0g];exact Int.emod_eq_of_lt h h'
theorem ie{α:Type}{l:List α}{i:Nat}(h:i<l.length):decide ((i:Int)<ln l)=true:=by simp[ln,h]
theorem gJ{α:Type}{l:List α}{i:Nat}(h:l.length≤i):decide ((i:Int)<ln l)=false:=by simp[ln];omega
theorem fy{α β:Type}{l:List α}{i:Nat}{k:Option β}(h:i<l.length):aH (0≤(i:Int)∧(i:Int)<ln l) k=k:=by
 unfold aH;rw[if_pos ⟨by omega,by unfold ln;omega⟩]
theorem bP{β:Type}{p:Prop}[Decidable p]{k:Option β}(h:p):aH p k=k:=by unfold aH;rw[if_pos h]
theorem bX{i:Nat}(h:i<4611686018427387904):J ((i:Int)+1)=((i+1:Nat):Int):=by rw[nB (by omega) (by omega)];rfl
theorem lt_eq{α β:Type}(e:α)(f:α→β):lt e f=f e:=rfl
theorem aW{α β:Type}(a:α)(f:α→Option β):Option.bind (some a) f=f a:=rfl
theorem aX{α:Sort _}(a b:α):cond false a b=b:=rfl
theorem bf{α:Sort _}(a b:α):cond true a b=a:=rfl
theorem vb{α:Type}[BEq α][LawfulBEq α]{a b:α}:(a==b)=false↔a≠b:=beq_eq_false_iff_ne
theorem du{p:Prop}[Decidable p](h:¬p):decide p=false:=decide_eq_false h
theorem eR{p:Prop}[Decidable p](h:p):decide p=true:=decide_eq_true h
theorem eF{α:Type}{a:α}{l:List α}:(a::l).length=l.length+1:=rfl
theorem eU{α:Type}{a b:List α}:(a++b).length=a.length+b.length:=List.length_append
theorem fY{α:Type}:([]:List α).length=0:=rfl
theorem pq{α:Type}{i:Nat}{l:List α}(h:i<l.length):l.drop i=l[i]::l.drop (i+1):=List.drop_eq_getElem_cons h
theorem zh{α:Type}{l:List α}{i:Nat}(h:l.length≤i):l.drop i=[]:=List.drop_eq_nil_of_le h
theorem o5{α:Type}{l:List α}:l.drop 0=l:=rfl
theorem cZ(n:Nat):n≤n:=Nat.le_refl n
theorem oF:(!true)=false:=rfl
theorem vc:(!false)=true:=rfl
theorem iv(n:Nat):0≤n:=Nat.zero_le n
theorem zi{p:Prop}[Decidable p](h:decide p=true):p:=of_decide_eq_true h
theorem xQ{α:Type}(a b c:List α):a++b++c=a++(b++c):=List.append_assoc a b c
theorem a6u{α:Type}{l:List α}(h:l.length=0):l=[]:=List.eq_nil_of_length_eq_zero h
theorem a6v(b:Bool):(true&&b)=b:=rfl
theorem aji(b:Bool):(b&&true)=b:=Bool.and_true b
theorem Je(b:Bool):(false||b)=b:=rfl
theorem a0h:∀{x y:Bool},(x||y)=false↔x=false∧y=false:=Bool.or_eq_false_iff
end Go.V
