/-
 'append' onto a slice that is read and has no room: a new row. A thing of the call's own that is lent. Nothing here is a statement of this claim.
-/
import Derived.Test.YtlgligdlpbggaaaGreatDoorQ1
import Derived.ArgAppend
import Derived.Laws.IdiomCopy
import Derived.DataReads
import Derived.ChangeOld
import Derived.ChangeArms
import Derived.Lib.LaidU8
import Derived.StillTail
import Derived.WideMake
import Derived.MapKept
import Derived.Lib.AppendZeros
import Derived.Test.YtlgligdlpbggaaaGreatDoorRows
import Derived.Test.YtlgligdlpbggaaaGreatDoorSh
import Derived.Lib.Mul64
set_option linter.unusedVariables false
set_option maxRecDepth 20000
set_option maxHeartbeats 4000000
namespace Go.V
open Go Go.RowKit
section
variable {P:Program} {a:Act} {w:World} {n:Nat} {l:SF} {M:Av} {D:List Deferred}
end
section
variable {M:Av} {X:List Nat} {w0 w w':World} {L R:List a8}
theorem SH.a4M{α:Type}{E:TypeId}{T:Ty α}{l:List α}{g:Gh}(h:SH M X w0 (.own E T l g::L) w):S0 (dO M L) [.im T l g] w:=by
 have h2:=h.fJ;have hf:∀b,b∉ay [a8.im T l g]:=λb hb=>by simp[ay,a8.im]at hb
 refine⟨Kp.refl _ _,by simp,λb hb=>absurd hb (hf b),λb hb=>absurd hb (hf b),λb hm=>?_,λe he=>?_⟩
 ·rcases hm with hm|hm
  ·exact Nat.lt_of_lt_of_le (h.mx b hm) h.kp.size
  ·obtain⟨e,he,hb⟩:=jo.1 hm;exact e.lt (h.ps e (List.mem_cons_of_mem _ he)) b hb
 ·rw[List.mem_singleton]at he;subst he;refine(a8.im T l g).bU (h2.ps _ List.mem_cons_self) λb hb=>?_;rcases hb with(hb|hb)|hb
  ·exact .inl hb
  ·exact .inr (by simp only[ay,List.mem_append];exact .inr hb)
  ·exact absurd hb (hf b)
theorem SH.a4N{α:Type}{E:TypeId}{T:Ty α}{l:List α}{g:Gh}(h:SH M X w0 (.own E T l g::L) w)(h2:SH (dO M L) (ay [.im T l g]) w R w')(hR:∀e∈R,∀M M' w,e.p M w→e.p M' w):SH M X w0 (R++.own E T l g::L) w':=by
 have hx:ay [a8.im T l g]=[]:=rfl;have hk:Kp [] w w':=hx▸h2.kp;have dF:∀{b:Nat},b∈ay (a8.own E T l g::L)→b<w.heap.size:=λhb=>by
  obtain⟨e,he,hb⟩:=jo.1 hb;exact e.lt (h.ps e he) _ hb
 have u5:∀{b:Nat},b∈ay R→w.heap.size≤b:=λhb=>by
  rcases h2.lo _ hb with h1|h1
  ·exact h1
  ·rw[hx]at h1;cases h1
 have iU:∀{b:Nat},b∈ay (R++.own E T l g::L)→b∈ay R∨b∈ay (a8.own E T l g::L):=λhb=>by
  obtain⟨e,he,hb⟩:=jo.1 hb;rcases List.mem_append.1 he with he|he
  ·exact .inl (jo.2 ⟨e,he,hb⟩)
  ·exact .inr (jo.2 ⟨e,he,hb⟩)
 refine⟨h.kp.trans hk (λy hy=>by cases hy),?_,λb hb=>?_,λb hb=>?_,h.mx,λe he=>?_⟩
 ·rw[List.pairwise_append];refine⟨h2.nd,h.nd,λe he f hf y hy yl=>?_⟩;have h3:=u5 (jo.2 ⟨e,he,hy⟩);have h4:=dF (jo.2 ⟨f,hf,yl⟩);omega
 ·rcases iU hb with hb|hb
  ·exact .inl (Nat.le_trans h.kp.size (u5 hb))
  ·exact h.lo b hb
 ·rcases iU hb with hb|hb
  ·exact λhm=>h2.nm b hb (.inl hm)
  ·exact h.nm b hb
 ·rcases List.mem_append.1 he with he|he
  ·exact hR e he _ _ _ (h2.ps e he)
  ·have hp:=e.fresh (h.ps e he);refine e.bU (e.kp hp hk (λb hb=>by cases hb) (λb hb yk=>by cases yk)) λb hb=>?_;rcases hb with hb|hb
   ·exact .inl (.inl hb)
   ·rcases iU hb with hb|hb
    ·exact .inr (u5 hb)
    ·exact .inl (.inr hb)
theorem a4O{α:Type}{E:TypeId}{T:Ty α}(hT:∀M M' w x g,T.bJ M w x g→T.bJ M' w x g)(l:List α)(g:Gh):∀M M' w,(a8.own E T l g).p M w→(a8.own E T l g).p M' w:=λ_ _ _ h=>⟨h.ow,λi hi=>hT _ _ _ _ _ (h.bJ i hi)⟩
theorem a4P{e:a8}(h:∀M M' w,e.p M w→e.p M' w):∀e'∈[e],∀M M' w,e'.p M w→e'.p M' w:=λe' he=>by
 rw[List.mem_singleton]at he;subst he;exact h
end
section
variable {P:Program} {a:Act} {w:World} {n:Nat} {l:SF} {M:Av} {D:List Deferred}
end
section
variable {P:Program} {a:Act} {w:World} {n:Nat} {l:SF} {M:Av} {D:List Deferred}
theorem a4Q{α:Type}{T:Ty α}{d:Nat}{t E ty:TypeId}{x lo hi mx:Operand}{pos:String}{after:Array Edge}{g:Gh}{q:List α}{n0 c0:Nat}{a0:Option Addr}{L:List a8}{k k2 k3:IntKind}(i j:Int)(H:aw D n l a)(hS:S0 M L w)(hs:aP T (dO M L) w q g)
  (hx:ev l [] x=some (.slice a0 n0 c0))(ha:g.a=a0)(hc:g.c=c0)(hn:q.length=n0)(u5:ev l [] lo=some (.int k3 i))(CJ:ev l [] hi=some (.int k j))(hmx:ev l [] mx=some (.int k2 j))
  (hu:P.underlying t=some (.slice E))(hz:(P.info? E).map (·.size)=some T.z)(dL:0≤i∧i≤j∧j≤ln q):
  bh P ⟨some d,.slice t x (some lo) (some hi) (some mx),ty,pos,after,none⟩ a w λv w'=>∃g':Gh,v=.slice g'.a (ff q i j).length (ff q i j).length∧SH M (ay L) w (.im T (ff q i j) (.mk g'.a (ff q i j).length g'.s)::L) w':=by
 subst ha hc hn;have hlen:(ff q i j).length=j.toNat-i.toNat:=xd q dL;have kF:(sizeOf E).run P w=.ok T.z w:=nh hz;have Ym:=hs.1.cp;have hj:j.toNat≤g.c:=by unfold ln at dL;omega
 have yh:aP T (dO M L) w (ff q i j) (.mk (if j.toNat-i.toNat=0 then g.a else g.a.map (·.add (i.toNat*T.z))) (j.toNat-i.toNat) (λk=>g.s (i.toNat+k))):=by
  rcases Nat.eq_zero_or_pos (ff q i j).length with h0|h0
  ·have:=List.eq_nil_of_length_eq_zero h0;rw[this];exact aP.nil
  ·rw[hlen]at h0;have h1:=hs.sub dL;rw[if_neg (show¬g.c=i.toNat by omega)]at h1;rw[if_neg (show¬j.toNat-i.toNat=0 by omega)];exact⟨⟨h1.1.ok,h1.1.lt,h1.1.av,h1.1.get,by rw[hlen];exact Nat.le_refl _⟩,h1.2⟩
 refine bh.o9 (v:=.slice (if j.toNat-i.toNat=0 then g.a else g.a.map (·.add (i.toNat*T.z))) (j.toNat-i.toNat) (j.toNat-i.toNat)) (w':=w) ?_ ⟨.mk (if j.toNat-i.toNat=0 then g.a else g.a.map (·.add (i.toNat*T.z))) (j.toNat-i.toNat) (λk=>g.s (i.toNat+k)),?_,?_⟩
 ·have hb:(Instr.sliceBounds true q.length g.c (some (.int k3 i)) (some (.int k j)) (some (.int k2 j))).run P w=.ok (i.toNat,j.toNat,j.toNat) w:=by
   have q1:j≤(g.c:Int):=by omega
   have q2:0≤j:=by omega
   have q3:j≤max j 0:=by omega
   have q4:i≤max j 0:=by omega
   have q5:=dL.1;simp[Instr.sliceBounds,Instr.sliceBound,asIntOf,q1,q2,q3,q4,q5]
  have QG:(if j.toNat=i.toNat then g.a else g.a.map (·.add (i.toNat*T.z)))=(if j.toNat-i.toNat=0 then g.a else g.a.map (·.add (i.toNat*T.z))):=by
   by_cases he:j.toNat=i.toNat
   ·rw[if_pos he,if_pos (by omega)]
   ·rw[if_neg he,if_neg (by omega)]
  rw[←QG];simp only[execOp,H.ev (eM a) hx,Instr.sliceAt,Sem.run_bind,run_underlying hu,Result.andThen_ok,Option.map_some,H.ev (eM a) u5,H.ev (eM a) CJ,H.ev (eM a) hmx,Instr.slice,hb,kF,Sem.run_pure]
 ·rw[hlen];rfl
 ·rw[hlen];exact hS.eN yh
end
theorem aP.nl{α:Type}{T:Ty α}{M:Av}{w:World}{l:List α}{g:Gh}(h:aP T M w l g)(hn:g.a=none):l=[]:=by
 cases l with
 |nil=>rfl
 |cons x r=>
  have:=h.1.ok (by simp);unfold dR at this;rw[hn]at this;cases this
section
variable {D:List Deferred}
def vy(a:Option Addr)(c i z:Nat):Option Addr:=if c=i then a else a.map (·.add (i*z))
theorem add_zero'(x:Addr):x.add 0=x:=by unfold Addr.add;split<;>simp_all
theorem a4R(a:Option Addr)(c z:Nat):a=vy a c 0 z:=by
 unfold vy;split
 ·rfl
 ·cases a with
  |none=>rfl
  |some x=>simp[add_zero']
section
variable {P:Program} {a:Act} {w:World} {n:Nat} {l:SF} {M:Av}
theorem YC{α:Type}{T:Ty α}{d:Nat}{t E ty e:TypeId}{x:Operand}{lo hi:Option Operand}{pos:String}{after:Array Edge}{g:Gh}{q:List α}{n0 c0:Nat}{a0:Option Addr}(i j:Int)(lo' kZ:Option Value)(H:aw D n l a)(hS:S0 M [.own e T q g] w)
  (hx:ev l [] x=some (.slice a0 n0 c0))(ha:g.a=a0)(hc:g.c=c0)(hn:q.length=n0)(u5:pj l [] lo=some lo')(CJ:pj l [] hi=some kZ)
  (h1:(lo'=none∧i=0)∨∃k,lo'=some (.int k i))(h2:(kZ=none∧j=ln q)∨∃k,kZ=some (.int k j))
  (hu:P.underlying t=some (.slice E))(hz:(P.info? E).map (·.size)=some T.z)(dL:0≤i∧i≤j∧j≤ln q):
  bh P ⟨some d,.slice t x lo hi none,ty,pos,after,none⟩ a w λv w'=>v=.slice (vy g.a g.c i.toNat T.z) (j.toNat-i.toNat) (g.c-i.toNat)∧SH M (ay [.own e T q g]) w [.own e T q g] w':=by
 subst ha hc hn;have Iz:∀(y:Option Operand) v,pj l [] y=some v→y.map a.eval=v:=by
  intro y v hy;cases y with
  |none=>simp only[pj,Option.some.injEq]at hy;subst hy;rfl
  |some z=>
   simp only[pj]at hy;split at hy
   ·rename_i u hu;simp only[Option.some.injEq]at hy;subst hy;simp[H.ev (eM a) hu]
   ·cases hy
 have Ym:=(hS.ow 0 rfl).cp;have kF:(sizeOf E).run P w=.ok T.z w:=nh hz;refine bh.o9 (v:=.slice (vy g.a g.c i.toNat T.z) (j.toNat-i.toNat) (g.c-i.toNat)) (w':=w) ?_ ⟨rfl,hS⟩;have hb:(Instr.sliceBounds true q.length g.c lo' kZ none).run P w=.ok (i.toNat,j.toNat,g.c) w:=by
  have hj:j.toNat≤q.length:=by unfold ln at dL;omega
  have q1:i.toNat≤j.toNat:=by omega
  have q2:j.toNat≤g.c:=by omega
  have q0:=dL.1;have q5:(j:Int)≤(g.c:Int):=by omega
  have q6:0≤j:=by omega
  have q7:=dL.2.1;rcases h2 with⟨rfl,rfl⟩|⟨k',rfl⟩<;>rcases h1 with⟨rfl,rfl⟩|⟨k,rfl⟩
  ·simp[Instr.sliceBounds,ln]
  ·have:i≤(q.length:Int):=dL.2.1;simp[Instr.sliceBounds,Instr.sliceBound,asIntOf,dL.1,this,ln]
  ·simp[Instr.sliceBounds,Instr.sliceBound,asIntOf,q5,q6]
  ·have q8:i≤max j 0:=by omega
   simp[Instr.sliceBounds,Instr.sliceBound,asIntOf,q5,q6,q0,q8]
 simp only[execOp,H.ev (eM a) hx,Instr.sliceAt,Sem.run_bind,run_underlying hu,Result.andThen_ok,Iz _ _ u5,Iz _ _ CJ,Option.map_none,Instr.slice,hb,kF,Sem.run_pure];rfl
end
def AA{α:Type}:List α→Nat→List α→List α
 |q,_,[]=>q
 |q,i,x::r=>AA (q.set i x) (i+1) r
def Fo(s:Nat→Nat→Gh)(i:Nat):Nat→(Nat→Nat→Gh)→Nat→Nat→Gh
 |0,_=>s
 |k+1,gs=>Fo (λj=>if j=i then gs 0 else s j) (i+1) k (λj=>gs (j+1))
def AB{α:Type}(q:List α)(i:Int)(xs:List α):Int:=(Nat.min xs.length (q.length-i.toNat):Nat)
def qf{α:Type}(q:List α)(i:Int)(xs:List α):List α:=AA q i.toNat (xs.take (Nat.min xs.length (q.length-i.toNat)))
theorem YD{α:Type}:∀(xs q:List α)(i:Nat),(AA q i xs).length=q.length
 |[],_,_=>rfl
 |x::r,q,i=>by rw[AA,YD r];simp
theorem AD{α:Type}(q:List α)(i:Int)(xs:List α):(qf q i xs).length=q.length:=YD _ _ _
theorem YE{α:Type}{R:α→(Nat→Gh)→Prop}:∀(xs q:List α)(i:Nat)(s gs:Nat→Nat→Gh),i+xs.length≤q.length→(∀k (h:k<q.length),R q[k] (s k))→(∀k (h:k<xs.length),R xs[k] (gs k))→
  ∀k (h:k<(AA q i xs).length),R (AA q i xs)[k] (Fo s i xs.length gs k)
 |[],q,i,s,gs,_,h1,_,k,h=>h1 k h
 |x::r,q,i,s,gs,hl,h1,h2,k,h=>by
  simp only[List.length_cons]at hl;refine YE r (q.set i x) (i+1) (λj=>if j=i then gs 0 else s j) (λj=>gs (j+1)) (by simp;omega) (λk' h'=>?_) (λk' h'=>?_) k h
  ·by_cases e:k'=i
   ·subst e;simp only[List.getElem_set_self,if_true];exact h2 0 (by simp)
   ·have h3:k'<q.length:=by simpa using h'
    rw[List.getElem_set_ne (λhe=>e he.symm),if_neg e];exact h1 k' h3
  ·exact h2 (k'+1) (by simpa using h')
theorem Mu{α:Type}(T:Ty α)(x:α)(r:List α)(gs:Nat→Nat→Gh):((da (x::r) gs 0).map (fC T)).flatten=T.enc x (gs 0)++((da r (λj=>gs (j+1)) 0).map (fC T)).flatten:=by
 simp only[da,List.map_cons,List.flatten_cons];rw[QY r gs (λj=>gs (j+1)) (0+1) 0 (λq=>by simp[Nat.add_comm])];rfl
theorem YF{α:Type}{T:Ty α}(hz:T.z=1):∀(xs q:List α)(i:Nat)(s gs:Nat→Nat→Gh),i+xs.length≤q.length→
  jW ((da q s 0).map (fC T)).flatten i ((da xs gs 0).map (fC T)).flatten=((da (AA q i xs) (Fo s i xs.length gs) 0).map (fC T)).flatten
 |[],q,i,s,gs,_=>rfl
 |x::r,q,i,s,gs,hl=>by
  simp only[List.length_cons]at hl;have he:∃v,T.enc x (gs 0)=[v]:=by
   have:=T.len x (gs 0);rw[hz]at this;exact List.length_eq_one_iff.1 this
  obtain⟨v,hv⟩:=he;have hi:i<q.length:=by omega
  have h1:=Yw (T:=T) (l:=q) (s:=s) (x:=x) (gx:=gs 0) (i:=i) (off:=0) (z:=1) (vs:=[v]) (λx g=>by rw[T.len,hz]) hi (by
   have h2:∃u,T.enc q[i] (s i)=[u]:=by
    have:=T.len q[i] (s i);rw[hz]at this;exact List.length_eq_one_iff.1 this
   obtain⟨u,hu⟩:=h2;rw[hu,hv];rfl) (by simp)
  rw[Nat.mul_one,Nat.add_zero]at h1;have h3:=YF hz r (q.set i x) (i+1) (λj=>if j=i then gs 0 else s j) (λj=>gs (j+1)) (by simp;omega);rw[Mu,hv];show jW (((da q s 0).map (fC T)).flatten.set i v) (i+1) _=_;have h4:((da q s 0).map (fC T)).flatten.set i v=((da (q.set i x) (λk=>if k=i then gs 0 else s k) 0).map (fC T)).flatten:=h1;rw[h4];exact h3
theorem YG{α:Type}{T:Ty α}(hz:T.z=1):∀(xs:List α)(gs:Nat→Nat→Gh)(j:Nat)(h:j<xs.length),(T.enc xs[j] (gs j))[0]?=((da xs gs 0).map (fC T)).flatten[j]?
 |x::r,gs,0,h=>by
  rw[Mu,List.getElem?_append_left (by rw[T.len,hz];decide)];rfl
 |x::r,gs,j+1,h=>by
  rw[Mu,List.getElem?_append_right (by rw[T.len,hz];omega),T.len,hz,Nat.add_sub_cancel];exact YG hz r (λj=>gs (j+1)) j (by simpa using h)
theorem YH{α:Type}{T:Ty α}:∀(xs:List α)(gs:Nat→Nat→Gh),pY ((da xs gs 0).map (fC T)).flatten=true
 |[],_=>rfl
 |x::r,gs=>by
  rw[Mu];have h1:=T.one x (gs 0);have h2:=YH (T:=T) r (λj=>gs (j+1));generalize T.enc x (gs 0)=u at*
  induction u with
  |nil=>exact h2
  |cons v t ih=>
   simp only[pY,Bool.and_eq_true,List.cons_append]at h1⊢;exact⟨h1.1,ih h1.2⟩
theorem a4S{α:Type}{e:TypeId}{T:Ty α}{M:Av}{w:World}{q:List α}{g:Gh}(ho:jY e T M w q g){i j:Int}(dL:0≤i∧i≤j∧j≤ln q):∀k (h:k<(ff q i j).length),T.bJ M w (ff q i j)[k] (g.s (i.toNat+k)):=λk h=>by
 have h1:i.toNat+k<q.length:=by
  rw[xd q dL]at h;unfold ln at dL;omega
 have h2:(ff q i j)[k]=q[i.toNat+k]:=by simp[ff]
 rw[h2];exact ho.bJ _ h1
section
variable {P:Program} {a:Act} {w:World} {n:Nat} {l:SF} {M:Av}
theorem YI{α:Type}{T:Ty α}{d:Nat}{tx Rc E ty e:TypeId}{x y:Operand}{pos:String}{after:Array Edge}{g gx:Gh}{q xs:List α}{L:List a8}{n0 c0 m0 c1:Nat}{a0 a1:Option Addr}(i:Int)(H:aw D n l a)(hS:S0 M (.own e T q g::L) w)
  (hs:aP T F0 w xs gx)(iU:∀k (h:k<xs.length),T.bJ (dO M (.own e T q g::L)) w xs[k] (gx.s k))
  (hx:ev l [] x=some (.slice a0 n0 c0))(ha:a0=vy g.a g.c i.toNat T.z)(hn:q.length-i.toNat=n0)
  (hy:ev l [] y=some (.slice a1 m0 c1))(ub:gx.a=a1)(hm:xs.length=m0)
  (hu:P.underlying tx=some (.slice E))(hz:(P.info? E).map (·.size)=some 1)(rR:T.z=1)(hi:0≤i∧i≤ln q)(_hL:ay L=[]):
  bh P ⟨some d,.call ⟨.builtin .copy,#[x,y],#[tx,Rc]⟩,ty,pos,after,none⟩ a w λv w'=>v=.int .i64 (AB q i xs)∧∃s:Nat→Nat→Gh,SH M (ay (.own e T q g::L)) w [.own e T (qf q i xs) (.mk g.a g.c s)] w':=by
 subst ha hn ub hm;have ho:=hS.ow 0 rfl;have hm0:Nat.min xs.length (q.length-i.toNat)≤xs.length:=Nat.min_le_left _ _;have hm1:Nat.min xs.length (q.length-i.toNat)≤q.length-i.toNat:=Nat.min_le_right _ _;have YJ:i.toNat≤q.length:=by unfold ln at hi;omega
 have fin:∀(s:Nat→Nat→Gh)(w':World),Kp (ay (.own e T q g::L)) w w'→Ow e (fC T) T.z w' g.a g.c (da (qf q i xs) s 0)→
   (∀k (h:k<(qf q i xs).length),T.bJ (dO M (.own e T q g::L)) w (qf q i xs)[k] (s k))→SH M (ay (.own e T q g::L)) w [.own e T (qf q i xs) (.mk g.a g.c s)] w':=λs w' hk how Mv=>by
  have lo:∀y∈ay [a8.own e T (qf q i xs) (.mk g.a g.c s)],w.heap.size≤y∨y∈ay (.own e T q g::L):=λy hy=>.inr (by
   simp only[ay,List.append_nil]at hy;simp only[ay,List.mem_append];exact .inl hy)
  refine SH.step hS hk (by simp) lo ?_;intro f hf;rw[List.mem_singleton]at hf;subst hf;exact⟨how,λk ym=>T.step hS hk lo (Mv k ym)⟩
 generalize ye:Nat.min xs.length (q.length-i.toNat)=m at*;have oe:(xs.take m).length=m:=by rw[List.length_take];omega
 have Mv:∀k (h:k<(qf q i xs).length),T.bJ (dO M (.own e T q g::L)) w (qf q i xs)[k] (Fo g.s i.toNat m gx.s k):=by
  unfold qf;rw[ye];have:=YE (R:=λx g'=>T.bJ (dO M (.own e T q g::L)) w x g') (xs.take m) q i.toNat g.s gx.s (by rw[oe];omega) ho.bJ (λk h=>by
   rw[List.getElem_take];exact iU k (by rw[oe]at h;omega))
  rw[oe]at this;exact this
 rcases Nat.eq_zero_or_pos m with h0|h0
 ·
  have hr:=run_copy_none (P:=P) w tx Rc ty E (vy g.a g.c i.toNat T.z) gx.a (q.length-i.toNat) c0 xs.length c1 hu hz (ye.trans h0);have hq:qf q i xs=q:=by unfold qf;rw[ye,h0];rfl
  have Ao:Fo g.s i.toNat m gx.s=g.s:=by rw[h0];rfl
  refine bh.o9 (v:=.int .i64 (AB q i xs)) (w':=w) ?_ ⟨rfl,g.s,fin _ _ (Kp.refl _ _) (by rw[hq];exact ho.ow) (by rw[←Ao];exact Mv)⟩;unfold AB;rw[ye,h0];simp only[execOp,resolve,Sem.run_bind,Sem.run_pure,Result.andThen_ok,invoke,builtin,List.map_toArray,List.map_cons,List.map_nil,H.ev (eM a) hx,H.ev (eM a) hy,hr];rfl
 ·rcases ho.ow.row.2 with⟨h1,pW⟩|⟨b,cap,qc,hv,_,hw,pr,R8,IC,Fk⟩
  ·rw[fX]at pW;omega
  ·simp only[Value.slice.injEq]at hv;obtain⟨xe,_,Mt⟩:=hv;rw[fX]at pr Fk;rw[rR,Nat.mul_one]at IC Fk;have R9:b<w.heap.size:=by
    rcases Nat.lt_or_ge b w.heap.size with hb|hb
    ·exact hb
    ·rw[Array.getElem?_eq_none hb]at hw;cases hw
   have hsv:vy g.a g.c i.toNat T.z=some ⟨b,i.toNat,none⟩:=by
    unfold vy;rw[if_neg (by rw[Mt];omega),xe,rR,Nat.mul_one];show some ((⟨b,0,none⟩:Addr).add i.toNat)=_;unfold Addr.add;simp;omega
   have Fl:dR gx.a:=hs.1.ok (by omega);obtain⟨bs,os,YK⟩:∃bs os,gx.a=some ⟨bs,os,none⟩:=by
    cases hg:gx.a with
    |none=>rw[hg]at Fl;simp[dR]at Fl
    |some A=>
     rw[hg]at Fl;obtain⟨bs,os,r⟩:=A;cases r with
     |none=>exact⟨bs,os,rfl⟩
     |some _=>simp[dR]at Fl
   let cs:=((da (xs.take m) gx.s 0).map (fC T)).flatten
   have xb:cs.length=m:=by
    show((da (xs.take m) gx.s 0).map (fC T)).flatten.length=m;rw[yf (enc:=fC T) (z:=T.z) (λp=>T.len p.1 p.2),fX,oe,rR,Nat.mul_one]
   have a4T:∀j v,cs[j]?=some v→w.cell? ((⟨bs,os,none⟩:Addr).add j)=some v:=by
    intro j v hj;have hjm:j<m:=by
     rcases Nat.lt_or_ge j m with h|h
     ·exact h
     ·rw[List.getElem?_eq_none (by omega)]at hj;cases hj
    have hg:=hs.1.get j (by omega) 0 v (by
     rw[←YG rR (xs.take m) gx.s j (by rw[oe];exact hjm),List.getElem_take]at hj;exact hj)
    rw[YK,rR,Nat.mul_one,Nat.add_zero]at hg;unfold Addr.add;split
    ·rename_i h0;rw[h0]at hg;exact hg
    ·exact hg
   have hl:=run_loadCells_list (P:=P) w ⟨bs,os,none⟩ cs a4T;obtain⟨w',h2,h3,CW⟩:=R5 (P:=P) (off:=i.toNat) cs 0 w qc.toList (YH _ _) (by simpa using hw) (by rw[xb];simp only[Array.length_toList];omega);rw[Nat.add_zero]at CW;have CO:Kp (ay (.own e T q g::L)) w w':=h3.wide (by intro y hy;simp only[List.mem_singleton]at hy;subst hy;simp only[ay,List.mem_append];left;simp only[a8.own,xe,fW,List.mem_singleton]);have yi:=YF (T:=T) rR (xs.take m) q i.toNat g.s gx.s (by rw[oe];omega);rw[oe]at yi;have It:AA q i.toNat (xs.take m)=qf q i xs:=by unfold qf;rw[ye]
   rw[It]at yi;refine bh.o9 (v:=.int .i64 (AB q i xs)) (w':=w') ?_ ⟨rfl,Fo g.s i.toNat m gx.s,fin _ _ CO ⟨⟨?_,.inr ⟨b,cap,⟨jW qc.toList i.toNat cs⟩,?_,Nat.zero_le _,by simpa using CW,?_,R8,?_,?_⟩⟩,?_,?_⟩ Mv⟩
   ·have a4U:AB q i xs=(m:Int):=by unfold AB;rw[ye]
    rw[a4U];have Mw:(Builtin.copy_ #[tx,Rc] ty #[.slice (vy g.a g.c i.toNat T.z) (q.length-i.toNat) c0,.slice gx.a xs.length c1]).run P w=.ok (goInt m) w':=by
     rw[hsv,YK];cases Re:P.info? E with
     |none=>simp[Re]at hz
     |some inf=>
      have hi1:inf.size=1:=by simpa[Re]using hz
      rw[xb]at hl;simp[Builtin.copy_,run_underlying hu,Builtin.lenOf,Builtin.firstCells,sizeOf,typeInfo,Re,hi1,ye,hl,h2]
    simp only[execOp,resolve,Sem.run_bind,Sem.run_pure,Result.andThen_ok,invoke,builtin,List.map_toArray,List.map_cons,List.map_nil,H.ev (eM a) hx,H.ev (eM a) hy,Mw];rfl
   ·rw[yf (enc:=fC T) (λp=>T.len p.1 p.2),fX]
   ·rw[xe,Mt]
   ·rw[fX,AD];exact pr
   ·simp[R6,IC,rR]
   ·rw[fX,rR,Nat.mul_one,AD];show(jW qc.toList _ _).take q.length=_;rw[R7 _ _ _ _ (by rw[xb];omega),Fk,yi]
   ·intro y hy;rw[xe]at hy;simp[fW]at hy;subst hy;exact Nat.lt_of_lt_of_le R9 h3.size
   ·rw[fX,AD];have:=ho.ow.ln;rw[fX]at this;exact this
end
end
section
variable {M:Av} {X:List Nat} {w0 w w':World} {L La Lr L':List a8}
theorem CX(A B:List a8):ay (A++B)=ay A++ay B:=by
 induction A with
 |nil=>rfl
 |cons e r ih=>simp[ay,ih]
theorem Rf{A B:List a8}(h:A.Perm B){b:Nat}:b∈ay A↔b∈ay B:=by
 rw[jo,jo];exact⟨λ⟨e,he,hb⟩=>⟨e,h.mem_iff.1 he,hb⟩,λ⟨e,he,hb⟩=>⟨e,h.mem_iff.2 he,hb⟩⟩
theorem SH.perm(h:SH M X w0 L w)(hp:L.Perm L'):SH M X w0 L' w:=
 ⟨h.kp,(hp.pairwise_iff (λ{e f} h=>Dj.symm h)).1 h.nd,λb hb=>h.lo b ((Rf hp).2 hb),λb hb=>h.nm b ((Rf hp).2 hb),h.mx,λe he=>e.bU (h.ps e (hp.mem_iff.2 he)) λb hb=>by
  rcases hb with hb|hb
  ·exact .inl hb
  ·exact .inr ((Rf hp).2 hb)⟩
theorem SH.YL(h:SH M X w0 (La++Lr) w):S0 (dO M Lr) La w:=by
 have hn:=h.nd;rw[List.pairwise_append]at hn;have iU:∀{b:Nat},b∈ay La→b∈ay (La++Lr):=λhb=>by rw[CX];exact List.mem_append_left _ hb
 have Fp:∀{b:Nat},b∈ay Lr→b∈ay (La++Lr):=λhb=>by rw[CX];exact List.mem_append_right _ hb
 refine⟨Kp.refl _ _,hn.1,λb hb=>.inr hb,λb hb hm=>?_,λb hm=>?_,λe he=>e.bU (h.ps e (List.mem_append_left _ he)) λb hb=>?_⟩
 ·rcases hm with hm|hm
  ·exact h.nm b (iU hb) hm
  ·obtain⟨e,he,Ix⟩:=jo.1 hb;obtain⟨f,hf,ID⟩:=jo.1 hm;exact hn.2.2 e he f hf b Ix ID
 ·rcases hm with hm|hm
  ·exact Nat.lt_of_lt_of_le (h.mx b hm) h.kp.size
  ·exact h.Yi (Fp hm)
 ·rcases hb with(hb|hb)|hb
  ·exact .inl hb
  ·exact .inr (Fp hb)
  ·exact .inr (iU hb)
theorem SH.YM(h:SH M X w0 (La++Lr) w)(h2:SH (dO M Lr) (ay La) w L' w'):SH M X w0 (L'++Lr) w':=by
 have hn:=h.nd;rw[List.pairwise_append]at hn;have iU:∀{b:Nat},b∈ay La→b∈ay (La++Lr):=λhb=>by rw[CX];exact List.mem_append_left _ hb
 have Fp:∀{b:Nat},b∈ay Lr→b∈ay (La++Lr):=λhb=>by rw[CX];exact List.mem_append_right _ hb
 have Mx:∀{b:Nat},b∈ay (L'++Lr)→b∈ay L'∨b∈ay Lr:=λhb=>by rw[CX]at hb;exact List.mem_append.1 hb
 refine⟨h.kp.trans h2.kp (λy hy=>?_),?_,λb hb=>?_,λb hb=>?_,h.mx,λe he=>?_⟩
 ·rcases h.lo y (iU hy)with h1|h1
  ·exact .inr h1
  ·exact .inl h1
 ·rw[List.pairwise_append];refine⟨h2.nd,hn.2.1,λe he f hf y hy yl=>?_⟩;exact h2.nm y (jo.2 ⟨e,he,hy⟩) (.inr (jo.2 ⟨f,hf,yl⟩))
 ·rcases Mx hb with hb|hb
  ·rcases h2.lo b hb with h1|h1
   ·exact .inl (Nat.le_trans h.kp.size h1)
   ·exact h.lo b (iU h1)
  ·exact h.lo b (Fp hb)
 ·rcases Mx hb with hb|hb
  ·exact λhm=>h2.nm b hb (.inl hm)
  ·exact h.nm b (Fp hb)
 ·rcases List.mem_append.1 he with he|he
  ·refine e.bU (h2.ps e he) λb hb=>?_;rcases hb with hb|hb
   ·exact .inl (.inl hb)
   ·rcases Mx hb with hb|hb
    ·exact .inr hb
    ·exact .inl (.inr hb)
  ·have hp:=e.fresh (h.ps e (List.mem_append_right _ he));refine e.bU (e.kp hp h2.kp (λb hb=>.inl (.inr (iU hb))) (λb hb yk=>?_)) λb hb=>?_
   ·obtain⟨f,hf,ID⟩:=jo.1 yk;exact hn.2.2 f hf e he b ID hb
   ·rcases hb with hb|hb
    ·exact .inl (.inl hb)
    ·rcases Mx hb with hb|hb
     ·rcases h2.lo b hb with h1|h1
      ·exact .inr h1
      ·exact .inl (.inr (iU h1))
     ·exact .inl (.inr (Fp hb))
end
abbrev Gm:=Nat→Nat→Gh
def dG(y:Gm)(i:Nat)(g:Nat→Gh):Gm:=λj=>cond (Nat.beq j i) g (y j)
theorem a4V(y:Gm)(g:Nat→Gh){i j:Nat}(h:j≠i):dG y i g j=y j:=by
 unfold dG;cases hb:Nat.beq j i with
 |true=>exact absurd (Nat.eq_of_beq_eq_true hb) h
 |false=>rfl
def gu:Nat→Nat→(Nat→Prop)→Prop
 |0,_,_=>True
 |n+1,i,p=>p i∧gu n (i+1) p
theorem gu.get{p:Nat→Prop}:∀{n i:Nat},gu n i p→∀j,i≤j→j<i+n→p j
 |0,i,_,j,h1,h2=>by omega
 |n+1,i,h,j,h1,h2=>by
  by_cases e:j=i
  ·subst e;exact h.1
  ·exact gu.get h.2 j (by omega) (by omega)
def dI(all:List Oper)(i:Nat):Option Nat:=(all[i]?).bind (·.dst)
def qH(n:Nat)(base:SF)(all:List Oper):Bool:=
 (all.all λo=>true&&match o.dst with|some d=>Nat.blt d n&&base.all λe=>e.2.1.isEmpty&&!(Nat.beq e.1 d)|none=>base.all λe=>e.2.1.isEmpty)&&CY (all.map (·.dst))
where CY:List (Option Nat)→Bool
 |[]=>true
 |none::r=>CY r
 |some d::r=>(r.all λq=>match q with|some e=>!(Nat.beq d e)|none=>true)&&CY r
theorem My:∀{l:List (Option Nat)},qH.CY l=true→∀(i j:Nat)(d e:Nat),i<j→l[i]?=some (some d)→l[j]?=some (some e)→d≠e
 |[],_,i,j,d,e,_,h,_=>by simp at h
 |none::r,hn,i,j,d,e,dL,h1,h2=>by
  match i,j,dL with
  |0,_,_=>simp at h1
  |i+1,j+1,dL=>exact My (l:=r) (by simpa[qH.CY]using hn) i j d e (by omega) (by simpa using h1) (by simpa using h2)
 |some x::r,hn,i,j,d,e,dL,h1,h2=>by
  have Mz:(r.all λq=>match q with|some e=>!(Nat.beq x e)|none=>true)=true∧qH.CY r=true:=by simpa[qH.CY]using hn
  match i,j,dL with
  |0,j+1,_=>
   have hx:x=d:=by simpa using h1
   subst hx;have:=(List.all_eq_true.1 Mz.1) (some e) (List.mem_of_getElem? (by simpa using h2));intro hde;subst hde;simp at this
  |i+1,j+1,dL=>exact My (l:=r) Mz.2 i j d e (by omega) (by simpa using h1) (by simpa using h2)
def cN(N:Nat)(ress:Gm→List (List a8))(L:List a8)(y:Gm):List Nat→List a8
 |[]=>[]
 |j::r=>(cond (Nat.blt j N) ((ress y).getD j []) [L.getD (j-N) .none])++cN N ress L y r
def gS(l:List Nat)(j:Nat):Bool:=l.any λk=>Nat.beq k j
theorem qg{l:List Nat}{j:Nat}:gS l j=true↔j∈l:=by
 unfold gS;rw[List.any_eq_true];exact⟨λ⟨k,hk,h⟩=>by rw[←Nat.eq_of_beq_eq_true h];exact hk,λh=>⟨j,h,by simp⟩⟩
def nodupB:List Nat→Bool
 |[]=>true
 |k::r=>!gS r k&&nodupB r
theorem YN:∀{l:List Nat},nodupB l=true→l.Nodup
 |[],_=>List.nodup_nil
 |k::r,h=>by
  unfold nodupB at h;rw[Bool.and_eq_true]at h;rw[List.nodup_cons];refine⟨λhk=>?_,YN h.2⟩;rw[qg.2 hk]at h;simp at h
def xf(N m:Nat)(all:List Oper)(use cons cG:List (List Nat)):Bool:=
 (List.range N).all λi=>
  nodupB (use.getD i [])&&
  ((use.getD i []).all λj=>Nat.blt j (N+m)&&(!(Nat.blt j N)||reach all N i j)&&(List.range N).all λk=>!(gS (cons.getD k []) j)||Nat.beq k i||reach all N k i)&&
  ((cons.getD i []).all λj=>gS (use.getD i []) j)&&
  ((cG.getD i []).all λj=>Nat.beq j i||reach all N i j)&&
  ((List.range N).all λk=>Nat.beq k i||(cons.getD k []).all λj=>!(gS (cons.getD i []) j))
def gv(listed:Array Bool)(k:Nat):Bool:=listed.getD k false
def rS(N:Nat)(cons:List (List Nat))(listed:Array Bool)(j:Nat):Bool:=(List.range N).any λk=>gv listed k&&gS (cons.getD k []) j
def ni(N m:Nat)(cons:List (List Nat))(listed:Array Bool):List Nat:=(List.range (N+m)).filter λj=>(!(Nat.blt j N)||gv listed j)&&!(rS N cons listed j)
def uf(N m:Nat)(cons:List (List Nat)):List Nat:=(List.range (N+m)).filter λj=>!((List.range N).any λk=>gS (cons.getD k []) j)
section
variable {N:Nat} {ress:Gm→List (List a8)} {L:List a8} {y:Gm}
theorem YO(A B:List Nat):cN N ress L y (A++B)=cN N ress L y A++cN N ress L y B:=by
 induction A with
 |nil=>rfl
 |cons j r ih=>simp[cN,ih]
theorem YP{A B:List Nat}(h:A.Perm B):(cN N ress L y A).Perm (cN N ress L y B):=by
 induction h with
 |nil=>exact List.Perm.nil
 |cons x _ ih=>exact List.Perm.append_left _ ih
 |swap x z l=>
  simp only[cN,←List.append_assoc];exact List.Perm.append_right _ List.perm_append_comm
 |trans _ _ h1 h2=>exact h1.trans h2
theorem a4W{y':Gm}{A:List Nat}(h:∀j∈A,Nat.blt j N=true→(ress y).getD j []=(ress y').getD j []):cN N ress L y A=cN N ress L y' A:=by
 induction A with
 |nil=>rfl
 |cons j r ih=>
  simp only[cN];rw[ih λk hk=>h k (List.mem_cons_of_mem _ hk)];congr 1;cases hb:Nat.blt j N with
  |true=>simp only[cond_true];exact h j List.mem_cons_self hb
  |false=>rfl
end
def yn(N:Nat)(all:List Oper)(e9:List (Nat×Nat×Value)):Bool:=
 e9.all λe=>Nat.blt e.2.1 N&&(List.range N).all λi=>Nat.beq i e.2.1||!(dI all i==some e.1)
structure DI{n:Nat}(N m:Nat)(base:SF)(all:List Oper)(cons:List (List Nat))(bV:Gm→List Value)(ress:Gm→List (List a8))(L:List a8)(e9:List (Nat×Nat×Value))(M:Av)(X:List Nat)(wE:World)(listed:Array Bool)(a:Act)(w:World)(y:Gm):Prop where
 size:listed.size=N
 fr:aw [] n base a
 did:∀i,gv listed i=true→∀d,dI all i=some d→a.tmps[d]?=some ((bV y).getD i undef)
 cl:∀(i:Nat)(o:Oper),gv listed i=true→all[i]?=some o→∀e∈o.after,Region.binds .any e=true→gv listed e.on=true
 sh:SH M X wE (cN N ress L y (ni N m cons listed)) w
 od:∀(k:Nat) e,e9[k]?=some e→gv listed e.2.1=false→a.tmps[e.1]?=some e.2.2
theorem IE{l:List Nat}(p:Nat→Bool)(h:l.Nodup):(l.filter p).Nodup:=List.Pairwise.filter p h
theorem nt{b:Bool}:(!b)=true↔¬b=true:=by cases b<;>simp
theorem YQ{j N:Nat}:Nat.blt j N=true↔j<N:=by simp[Nat.blt,Nat.lt_iff_add_one_le]
theorem qI{listed:Array Bool}{i:Nat}:gv listed i=true↔listed[i]?=some true:=by
 unfold gv;rw[Array.getD_eq_getD_getElem?];cases h:listed[i]? with
 |none=>simp
 |some b=>simp
@[reducible] def ti (o:Oper):Oper:=match o with
 |⟨d,op,ty,pos,after,_⟩=>⟨d,op,ty,pos,after,none⟩
def tj(all:List Oper)(bV:Gm→List Value)(cG:List (List Nat))(i:Nat):Option (Nat×Bool)→Prop
 |none=>True
 |some (j,b)=>(gS (cG.getD i []) j&&!(Nat.beq j i)&&(dI all j).isSome)=true∧∀y,(bV y).getD j undef=.bool b
def IF(all:List Oper)(bV:Gm→List Value)(ress:Gm→List (List a8))(use cG:List (List Nat))(i:Nat):Option (Nat×Bool)→Prop
 |none=>False
 |some (j,b)=>(gS (cG.getD i []) j&&!(Nat.beq j i)&&(dI all j).isSome)=true∧((∀y,(bV y).getD j undef=.bool (!b))∨∀y,(bV y).getD j undef=undef)∧(∀y,(bV y).getD i undef=undef∧(ress y).getD i []=[])∧use.getD i []=[]
theorem gu.and{p q:Nat→Prop}:∀{n i:Nat},gu n i p→gu n i q→gu n i λi=>p i∧q i
 |0,_,_,_=>trivial
 |_+1,_,h,k=>⟨⟨h.1,k.1⟩,gu.and h.2 k.2⟩
theorem gu.imp{p q:Nat→Prop}(f:∀i,p i→q i):∀{n i:Nat},gu n i p→gu n i q
 |0,_,_=>trivial
 |_+1,i,h=>⟨f i h.1,gu.imp f h.2⟩
theorem nj{all:List Oper}{bV:Gm→List Value}{cG:List (List Nat)}(h:(all.all λo=>o.guard.isNone)=true):∀n i,gu n i λi=>tj all bV cG i ((all[i]?).bind (·.guard))
 |0,_=>trivial
 |n+1,i=>by
  refine⟨?_,nj h n (i+1)⟩;show tj all bV cG i ((all[i]?).bind (·.guard));cases hi:all[i]? with
  |none=>trivial
  |some o=>
   have:=List.all_eq_true.1 h o (List.mem_of_getElem? hi);have h2:o.guard=none:=by simpa using this
   show tj all bV cG i o.guard;rw[h2];trivial
theorem YR{P:Program}{n id:Nat}{all:List Oper}{Q:Exit→Act→World→Prop}{a:Act}{w wE:World}{base:SF}{M:Av}{X:List Nat}{L:List a8}(N m:Nat)(bV:Gm→List Value)(ress:Gm→List (List a8))(use cons cG:List (List Nat))(e9:List (Nat×Nat×Value))
  (H:aw [] n base a)(hold:∀(k:Nat) e,e9[k]?=some e→a.tmps[e.1]?=some e.2.2)(oi:yn N all e9=true)(hS:SH M X wE L w)(hm:P.follows .mixedOrders=true)(hN:all.length=N)(hL:L.length=m)(iT:qH n base all=true)(kG:xc all=true)(pu:xf N m all use cons cG=true)
  (vz:gu N 0 λj=>∀(y:Gm)(i:Nat)(g:Nat→Gh),i∉cG.getD j []→(bV (dG y i g)).getD j undef=(bV y).getD j undef∧(ress (dG y i g)).getD j []=(ress y).getD j [])
  (hA:gu N 0 λi=>IF all bV ress use cG i ((all[i]?).bind (·.guard))∨(tj all bV cG i ((all[i]?).bind (·.guard))∧∀o,all[i]?=some o→∀a' w' y M',aw [] n base a'→(∀j∈cG.getD i [],j≠i→∀d,dI all j=some d→a'.tmps[d]?=some ((bV y).getD j undef))→(∀(k:Nat) e,e9[k]?=some e→(Nat.beq e.2.1 i||reach all N e.2.1 i)=true→a'.tmps[e.1]?=some e.2.2)→S0 M' (cN N ress L y (use.getD i [])) w'→
   bh P (ti o) a' w' λv w2=>∃g:Nat→Gh,(∀d,dI all i=some d→v=(bV (dG y i g)).getD i undef)∧SH M' (ay (cN N ress L y (use.getD i []))) w' ((ress (dG y i g)).getD i []++cN N ress L y ((use.getD i []).filter λj=>!(gS (cons.getD i []) j))) w2))
  (hK:∀a' w' y,aw [] n base a'→(∀i d,dI all i=some d→a'.tmps[d]?=some ((bV y).getD i undef))→SH M X wE (cN N ress L y (uf N m cons)) w'→Q .normal a' w'):
  (Code.region id all.toArray true).wp P Q a w:=by
 subst hN;have YS:∀(y:Gm)(i:Nat)(g:Nat→Gh)(j:Nat),j<all.length→i∉cG.getD j []→(bV (dG y i g)).getD j undef=(bV y).getD j undef∧(ress (dG y i g)).getD j []=(ress y).getD j []:=λy i g j hj=>vz.get j (by omega) (by omega) y i g;unfold qH at iT;rw[Bool.and_eq_true,List.all_eq_true]at iT;obtain⟨a4X,IG⟩:=iT;have Rh:∀i o,all[i]?=some o→True∧o.dst=dI all i∧(∀e∈base,e.2.1=[])∧∀d,dI all i=some d→Nat.blt d n=true∧∀e∈base,e.1≠d:=by
  intro i o ho;have h1:=a4X o (List.mem_of_getElem? ho);rw[Bool.and_eq_true]at h1;obtain⟨h2,h3⟩:=h1;have e1:dI all i=o.dst:=by simp[dI,ho]
  rw[e1];cases hd:o.dst with
  |none=>
   simp only[hd,List.all_eq_true]at h3;exact⟨trivial,rfl,λe he=>by have:=h3 e he;simpa using this,λd hd=>by cases hd⟩
  |some d=>
   simp only[hd,Bool.and_eq_true,List.all_eq_true]at h3;refine⟨trivial,rfl,λe he=>?_,λd' gU=>?_⟩
   ·have:=h3.2 e he;simp only[List.isEmpty_iff]at this;exact this.1
   ·cases gU;refine⟨h3.1,λe he=>?_⟩;have:=h3.2 e he;simp only[Bool.not_eq_true']at this;exact Nat.ne_of_beq_eq_false this.2
 have a4Y:∀i j d e,i≠j→dI all i=some d→dI all j=some e→d≠e:=by
  intro i j d e dL h1 h2;have g1:(all.map (·.dst))[i]?=some (some d):=by
   unfold dI at h1;rw[List.getElem?_map];cases hx:all[i]? with
   |none=>rw[hx]at h1;cases h1
   |some o=>rw[hx]at h1;simpa using h1
  have g2:(all.map (·.dst))[j]?=some (some e):=by
   unfold dI at h2;rw[List.getElem?_map];cases hx:all[j]? with
   |none=>rw[hx]at h2;cases h2
   |some o=>rw[hx]at h2;simpa using h2
  rcases Nat.lt_or_gt_of_ne dL with dF|dF
  ·exact My IG i j d e dF g1 g2
  ·exact λh=>My IG j i e d dF g2 g1 h.symm
 have a4Z:∀i o,all[i]?=some o→∀e∈o.after,Region.binds .any e=true→e.on<i:=by
  intro i o ho e he hb;have hi:i<all.length:=(List.getElem?_eq_some_iff.1 ho).1;have h1:=(List.all_eq_true.1 kG) i (List.mem_range.2 hi);rw[ho]at h1;have h2:=(List.all_eq_true.1 h1) e (by simpa using he);rw[hb]at h2;simpa[Nat.blt,Nat.lt_iff_add_one_le]using h2
 -- what was checked
 have Ri:∀i,i<all.length→(use.getD i []).Nodup∧(∀j∈use.getD i [],j<all.length+m∧(j<all.length→reach all all.length i j=true)∧∀k,k<all.length→j∈cons.getD k []→k=i∨reach all all.length k i=true)∧
   (∀j∈cons.getD i [],j∈use.getD i [])∧(∀j∈cG.getD i [],j=i∨reach all all.length i j=true)∧∀k,k<all.length→k≠i→∀j∈cons.getD k [],j∉cons.getD i []:=by
  intro i hi;have h1:=(List.all_eq_true.1 pu) i (List.mem_range.2 hi);simp only[Bool.and_eq_true]at h1;obtain⟨⟨⟨⟨h1,h2⟩,h3⟩,h4⟩,h5⟩:=h1;refine⟨YN h1,λj hj=>?_,λj hj=>qg.1 ((List.all_eq_true.1 h3) j hj),λj hj=>?_,λk hk hki j hj yp=>?_⟩
  ·have:=(List.all_eq_true.1 h2) j hj;simp only[Bool.and_eq_true,Bool.or_eq_true,Bool.not_eq_true']at this;obtain⟨⟨p1,p2⟩,p3⟩:=this;refine⟨by simpa[Nat.blt,Nat.lt_iff_add_one_le]using p1,λFq=>?_,λk hk hjk=>?_⟩
   ·rcases p2 with p2|p2
    ·have:Nat.blt j all.length=true:=by simpa[Nat.blt,Nat.lt_iff_add_one_le]using Fq
     rw[this]at p2;cases p2
    ·exact p2
   ·have:=(List.all_eq_true.1 p3) k (List.mem_range.2 hk);simp only[Bool.or_eq_true,Bool.not_eq_true']at this;rcases this with(q|q)|q
    ·rw[qg.2 hjk]at q;cases q
    ·exact .inl (Nat.eq_of_beq_eq_true q)
    ·exact .inr q
  ·have:=(List.all_eq_true.1 h4) j hj;simp only[Bool.or_eq_true]at this;rcases this with q|q
   ·exact .inl (Nat.eq_of_beq_eq_true q)
   ·exact .inr q
  ·have:=(List.all_eq_true.1 h5) k (List.mem_range.2 hk);simp only[Bool.or_eq_true]at this;rcases this with q|q
   ·exact hki (Nat.eq_of_beq_eq_true q)
   ·have:=(List.all_eq_true.1 q) j hj;rw[qg.2 yp]at this;cases this
 refine wp_region_any hm ?_;have YT:∀(listed:Array Bool)(a':Act)(w':World)(y:Gm),DI (n:=n) all.length m base all cons bV ress L e9 M X wE listed a' w' y→Region.ready .any all.toArray listed=[]→Q .normal a' w':=by
  intro listed a' w' y hI hr;have yq:∀i,i<all.length→gv listed i=true:=by
   intro i
   induction i using Nat.strongRecOn with
   |_ i ih=>
    intro hi;have YU:i<listed.size:=by rw[hI.size];exact hi
    cases hb:listed[i]with
    |true=>rw[qI,Array.getElem?_eq_getElem YU,hb]
    |false=>
     exfalso;have:i∈Region.ready .any all.toArray listed:=by
      rw[mem_ready];refine⟨by simp[YU,hb],all[i],by simp[hi],λe he Iq=>?_⟩;have dF:=a4Z i all[i] (List.getElem?_eq_getElem hi) e he Iq;exact ih e.on dF (by omega)
     rw[hr]at this;cases this
  have yi:ni all.length m cons listed=uf all.length m cons:=by
   unfold ni uf;apply List.filter_congr;intro j _;have h1:(!(Nat.blt j all.length)||gv listed j)=true:=by
    cases hb:Nat.blt j all.length with
    |false=>rfl
    |true=>simp only[Bool.not_true,Bool.false_or];exact yq j (by simpa[Nat.blt,Nat.lt_iff_add_one_le]using hb)
   rw[h1,Bool.true_and];congr 1;unfold rS;rw[Bool.eq_iff_iff,List.any_eq_true,List.any_eq_true];constructor
   ·rintro⟨k,hk,h⟩;rw[Bool.and_eq_true]at h;exact⟨k,hk,h.2⟩
   ·rintro⟨k,hk,h⟩;exact⟨k,hk,by rw[yq k (List.mem_range.1 hk),h];rfl⟩
  refine hK a' w' y hI.fr (λi d hd=>hI.did i (yq i ?_) d hd) (yi▸hI.sh);unfold dI at hd;rcases Nat.lt_or_ge i all.length with h|h
  ·exact h
  ·rw[List.getElem?_eq_none h]at hd;cases hd
 have key:∀(fuel:Nat)(listed:Array Bool)(a':Act)(w':World)(y:Gm),DI (n:=n) all.length m base all cons bV ress L e9 M X wE listed a' w' y→listed.toList.count false=fuel→wpAny P .any all.toArray Q fuel listed a' w':=by
  intro fuel
  induction fuel with
  |zero=>
   intro listed a' w' y hI hc;have YV:Region.ready .any all.toArray listed=[]:=by
    rw[List.eq_nil_iff_forall_not_mem];intro i hi;have h1:=(mem_ready.1 hi).1;have h2:=List.count_eq_zero.1 hc;have dF:i<listed.size:=by
     rcases Nat.lt_or_ge i listed.size with h|h
     ·exact h
     ·simp[Array.getD_eq_getD_getElem?,Array.getElem?_eq_none h]at h1
    apply h2;simp[Array.getD_eq_getD_getElem?,dF]at h1;rw[←h1];simp
   exact⟨YV,YT listed a' w' y hI YV⟩
  |succ fuel ih=>
   intro listed a' w' y hI hc;refine⟨YT listed a' w' y hI,λi hi=>?_⟩;obtain⟨YW,o,ho,yq⟩:=mem_ready.1 hi;have dF:i<listed.size:=by
    rcases Nat.lt_or_ge i listed.size with h|h
    ·exact h
    ·simp[Array.getD_eq_getD_getElem?,Array.getElem?_eq_none h]at YW
   have YX:listed[i]=false:=by simpa[Array.getD_eq_getD_getElem?,dF]using YW
   have MA:all[i]?=some o:=by simpa using ho
   obtain⟨_,hd,a50,YY⟩:=Rh i o MA;have Fs:i<all.length:=by rw[←hI.size];exact dF
   obtain⟨c1,c2,c3,c4,c5⟩:=Ri i Fs;have YZ:∀e∈o.after,Region.binds .any e=true→listed[e.on]?=some true:=λe he hb=>qI.1 (yq e he hb);have Rj:∀(i:Nat)(o:Oper),listed[i]?=some true→all[i]?=some o→∀e∈o.after,Region.binds .any e=true→listed[e.on]?=some true:=λi o h1 h2 e he hb=>qI.1 (hI.cl i o (qI.2 h1) h2 e he hb);have MB:∀j,reach all all.length i j=true→gv listed j=true:=λj hj=>qI.2 (QW Rj _ i j o MA YZ hj);have Ft:gv listed i=false:=by
    cases hb:gv listed i with
    |false=>rfl
    |true=>rw[qI,Array.getElem?_eq_getElem dF,YX]at hb;cases hb
   have MC:∀k,gv listed k=true→reach all all.length k i=true→False:=by
    intro k hk hr;have yr:k<all.length:=by
     rw[←hI.size];rcases Nat.lt_or_ge k listed.size with h|h
     ·exact h
     ·rw[qI,Array.getElem?_eq_none h]at hk;cases hk
    have iT:all[k]?=some all[k]:=List.getElem?_eq_getElem yr;have:=qI.2 (QW Rj _ k i all[k] iT (λe he hb=>Rj k _ (qI.1 hk) iT e he hb) hr);rw[Ft]at this;cases this
   -- what is used is there
   have IH:∀j∈use.getD i [],j∈ni all.length m cons listed:=by
    intro j hj;obtain⟨q1,q2,q3⟩:=c2 j hj;unfold ni;rw[List.mem_filter,List.mem_range,Bool.and_eq_true];refine⟨q1,?_,?_⟩
    ·rcases Nat.lt_or_ge j all.length with h|h
     ·rw[MB j (q2 h)];simp
     ·have:Nat.blt j all.length=false:=by
       cases hb:Nat.blt j all.length with
       |false=>rfl
       |true=>
        have:j<all.length:=by simpa[Nat.blt,Nat.lt_iff_add_one_le]using hb
        omega
      rw[this];rfl
    ·cases hb:rS all.length cons listed j with
     |false=>rfl
     |true=>
      exfalso;unfold rS at hb;rw[List.any_eq_true]at hb;obtain⟨k,hk,hb⟩:=hb;rw[Bool.and_eq_true]at hb;rcases q3 k (List.mem_range.1 hk) (qg.1 hb.2)with rfl|hr
      ·rw[Ft]at hb;cases hb.1
      ·exact MC k hb.1 hr
   have Rk:(ni all.length m cons listed).Nodup:=IE _ List.nodup_range
   let U:=use.getD i []
   let C:=cons.getD i []
   let R:=(ni all.length m cons listed).filter λj=>!(gS U j)
   have hpu:(ni all.length m cons listed).Perm (U++R):=by
    rw[List.perm_ext_iff_of_nodup Rk]
    ·intro j;rw[List.mem_append,List.mem_filter];constructor
     ·intro hj;by_cases Z0:j∈U
      ·exact .inl Z0
      ·refine .inr ⟨hj,?_⟩;cases hb:gS U j with
       |false=>rfl
       |true=>exact absurd (qg.1 hb) Z0
     ·rintro(hj|hj)
      ·exact IH j hj
      ·exact hj.1
    ·rw[List.nodup_append];refine⟨c1,IE _ Rk,λx hx z hz e=>?_⟩;subst e;rw[List.mem_filter,qg.2 hx]at hz;cases hz.2
   have MD:=hI.sh.perm (YP (N:=all.length) (ress:=ress) (L:=L) (y:=y) hpu);rw[YO]at MD;have hh:=MD.YL;have a52:∀(k:Nat) e,e9[k]?=some e→(Nat.beq e.2.1 i||reach all all.length e.2.1 i)=true→a'.tmps[e.1]?=some e.2.2:=by
    intro k e he hr;refine hI.od k e he ?_;rw[Bool.or_eq_true]at hr;rcases hr with hr|hr
    ·rw[Nat.eq_of_beq_eq_true hr];exact Ft
    ·cases hb:gv listed e.2.1 with
     |false=>rfl
     |true=>exact(MC e.2.1 hb hr).elim
   have fin:∀(v:Value)(w2:World)(g:Nat→Gh),(∀d,dI all i=some d→v=(bV (dG y i g)).getD i undef)→SH (dO M (cN all.length ress L y R)) (ay (cN all.length ress L y U)) w' ((ress (dG y i g)).getD i []++cN all.length ress L y (U.filter λj=>!(gS C j))) w2→
     wpAny P .any all.toArray Q fuel (listed.setIfInBounds i true) (a'.put (dI all i) v) w2:=by
    intro v w2 g hv vC;have xg:∀j:Nat,gv (listed.setIfInBounds i true) j=true↔j=i∨gv listed j=true:=by
     intro j;rw[qI,qI,Array.getElem?_setIfInBounds];by_cases e:i=j
     ·subst e;simp[dF]
     ·rw[if_neg e];exact⟨λh=>.inr h,λh=>h.resolve_left λx=>e x.symm⟩
    have Z1:∀j,gv listed j=true→j<all.length:=by
     intro j hj;rw[←hI.size];rcases Nat.lt_or_ge j listed.size with h|h
     ·exact h
     ·rw[qI,Array.getElem?_eq_none h]at hj;cases hj
    -- the others stand on nothing of this one
    have Z2:∀j,gv listed j=true→i∉cG.getD j []:=by
     intro j hj Iv;obtain⟨_,_,_,d4,_⟩:=Ri j (Z1 j hj);rcases d4 i Iv with e|hr
     ·subst e;rw[Ft]at hj;cases hj
     ·exact MC j hj hr
    have Z3:∀j,j∈ni all.length m cons listed→j<all.length→gv listed j=true:=by
     intro j hj Fq;unfold ni at hj;rw[List.mem_filter,Bool.and_eq_true]at hj;have hb:Nat.blt j all.length=true:=by simpa[Nat.blt,Nat.lt_iff_add_one_le]using Fq
     have:=hj.2.1;rw[hb]at this;simpa using this
    have Z4:∀A:List Nat,(∀j∈A,j∈ni all.length m cons listed)→cN all.length ress L y A=cN all.length ress L (dG y i g) A:=by
     intro A hA;refine a4W λj hj hb=>?_;have Fq:j<all.length:=by simpa[Nat.blt,Nat.lt_iff_add_one_le]using hb
     exact(YS y i g j Fq (Z2 j (Z3 j (hA j hj) Fq))).2.symm
    have a54:=MD.YM vC
    let K:=U.filter λj=>!(gS C j)
    have e1:cN all.length ress L y K=cN all.length ress L (dG y i g) K:=Z4 K λj hj=>IH j (List.mem_filter.1 hj).1;have e2:cN all.length ress L y R=cN all.length ress L (dG y i g) R:=Z4 R λj hj=>(List.mem_filter.1 hj).1;have hbi:Nat.blt i all.length=true:=by simpa[Nat.blt,Nat.lt_iff_add_one_le]using Fs
    have e3:(ress (dG y i g)).getD i []++cN all.length ress L (dG y i g) K++cN all.length ress L (dG y i g) R=cN all.length ress L (dG y i g) (i::(K++R)):=by
     simp only[cN,hbi,cond_true,YO,List.append_assoc]
    have a55:SH M X wE (cN all.length ress L (dG y i g) (i::(K++R))) w2:=by
     rw[←e3,←e1,←e2];exact a54
    have uc:(i::(K++R)).Perm (ni all.length m cons (listed.setIfInBounds i true)):=by
     have a56:∀j,rS all.length cons (listed.setIfInBounds i true) j=true↔j∈C∨rS all.length cons listed j=true:=by
      intro j;unfold rS;rw[List.any_eq_true,List.any_eq_true];constructor
      ·rintro⟨k,hk,h⟩;rw[Bool.and_eq_true,xg]at h;rcases h.1 with rfl|h1
       ·exact .inl (qg.1 h.2)
       ·exact .inr ⟨k,hk,by rw[h1,h.2];rfl⟩
      ·rintro(h|⟨k,hk,h⟩)
       ·exact⟨i,List.mem_range.2 Fs,by rw[Bool.and_eq_true,xg];exact⟨.inl rfl,qg.2 h⟩⟩
       ·rw[Bool.and_eq_true]at h;exact⟨k,hk,by rw[Bool.and_eq_true,xg];exact⟨.inr h.1,h.2⟩⟩
     have Rl:i∉ni all.length m cons listed:=by
      intro h;have:=Z3 i h Fs;rw[Ft]at this;cases this
     have hiC:¬(i∈C∨rS all.length cons listed i=true):=by
      rintro(h|h)
      ·exact Rl (IH i (c3 i h))
      ·unfold rS at h;rw[List.any_eq_true]at h;obtain⟨k,hk,h⟩:=h;rw[Bool.and_eq_true]at h;obtain⟨_,d2,d3,_,_⟩:=Ri k (List.mem_range.1 hk);have Fu:=d3 i (qg.1 h.2);exact MC k h.1 ((d2 i Fu).2.1 Fs)
     rw[List.perm_ext_iff_of_nodup]
     ·intro j;have qJ:j∈ni all.length m cons (listed.setIfInBounds i true)↔j<all.length+m∧((¬j<all.length)∨j=i∨gv listed j=true)∧¬(j∈C∨rS all.length cons listed j=true):=by
       unfold ni;rw[List.mem_filter,List.mem_range,Bool.and_eq_true,Bool.or_eq_true,xg,nt,nt,a56,YQ]
      have Rm:j∈ni all.length m cons listed↔j<all.length+m∧((¬j<all.length)∨gv listed j=true)∧¬(rS all.length cons listed j=true):=by
       unfold ni;rw[List.mem_filter,List.mem_range,Bool.and_eq_true,Bool.or_eq_true,nt,nt,YQ]
      rw[qJ,List.mem_cons,List.mem_append,List.mem_filter,List.mem_filter];have Z5:∀(l:List Nat),(!(gS l j))=true↔j∉l:=λl=>by
       rw[Bool.not_eq_true',←qg (l:=l)];simp
      rw[Z5,Z5];constructor
      ·rintro(rfl|⟨h1,h2⟩|⟨h1,h2⟩)
       ·exact⟨by omega,.inr (.inl rfl),hiC⟩
       ·obtain⟨p1,p2,p3⟩:=Rm.1 (IH j h1);refine⟨p1,p2.imp_right .inr,?_⟩;rintro(h|h)
        ·exact h2 h
        ·exact p3 h
       ·obtain⟨p1,p2,p3⟩:=Rm.1 h1;refine⟨p1,p2.imp_right .inr,?_⟩;rintro(h|h)
        ·exact h2 (c3 j h)
        ·exact p3 h
      ·rintro⟨p1,p2,p3⟩;by_cases e:j=i
       ·exact .inl e
       ·right;have QD:j∈ni all.length m cons listed:=Rm.2 ⟨p1,p2.imp_right λh=>h.resolve_left e,λh=>p3 (.inr h)⟩;by_cases hu:j∈U
        ·exact .inl ⟨hu,λh=>p3 (.inl h)⟩
        ·exact .inr ⟨QD,hu⟩
     ·rw[List.nodup_cons,List.nodup_append];refine⟨λh=>?_,IE _ c1,IE _ Rk,λx hx z hz e=>?_⟩
      ·rw[List.mem_append,List.mem_filter,List.mem_filter]at h;rcases h with h|h
       ·exact Rl (IH i h.1)
       ·exact Rl h.1
      ·subst e;rw[List.mem_filter]at hx hz;rw[qg.2 hx.1]at hz;cases hz.2
     ·exact IE _ List.nodup_range
    refine ih (listed.setIfInBounds i true) (a'.put (dI all i) v) w2 (dG y i g) ⟨by simp[hI.size],?_,?_,?_,a55.perm (YP uc),?_⟩ ?_
    ·cases II:dI all i with
     |none=>exact hI.fr
     |some d=>
      obtain⟨hdn,Iq⟩:=YY d II;have h1:aw [] n (nG base d [] v) (a'.put (some d) v):=aw.set (H:=hI.fr) hdn;refine⟨h1.1,h1.2.1,λe he=>?_⟩;have R3:=a50 e he;have hQ:=Iq e he;have h2:=hI.fr.2.2 e he;rw[R3]at h2⊢;refine⟨λ_=>?_,λx=>absurd (eM _) x⟩;rw[F5 hQ];exact h2.1 (eM _)
    ·intro j hj d vD;rcases(xg j).1 hj with e1|yp
     ·subst e1;have kF:d<a'.tmps.size:=by
       have h1:=hI.fr.2.1;have:d<n:=by simpa[Nat.blt,Nat.lt_iff_add_one_le]using(YY d vD).1
       omega
      rw[hv d vD,vD];simp[Act.put,kF]
     ·have hQ:j≠i:=λe=>by subst e;rw[Ft]at yp;cases yp
      have Z6:=hI.did j yp d vD;rw[(YS y i g j (Z1 j yp) (Z2 j yp)).1];cases II:dI all i with
      |none=>exact Z6
      |some d2=>
       rw[F5 (a4Y j i d d2 hQ vD II)];exact Z6
    ·intro j oj hj Rn e he hb;rcases(xg j).1 hj with e1|yp
     ·subst e1;rw[MA]at Rn;cases Rn;exact(xg _).2 (.inr (qI.2 (YZ e he hb)))
     ·exact(xg _).2 (.inr (hI.cl j oj yp Rn e he hb))
    ·intro k e he hl;have hQ:e.2.1≠i∧gv listed e.2.1=false:=by
      refine⟨λh=>?_,?_⟩
      ·rw[h,(xg i).2 (.inl rfl)]at hl;cases hl
      ·cases hb:gv listed e.2.1 with
       |false=>rfl
       |true=>rw[(xg _).2 (.inr hb)]at hl;cases hl
     have h0:=hI.od k e he hQ.2;have h1:=(List.all_eq_true.1 oi) e (List.mem_of_getElem? he);rw[Bool.and_eq_true]at h1;have h2:=(List.all_eq_true.1 h1.2) i (List.mem_range.2 Fs);rw[Bool.or_eq_true]at h2;have h3:¬dI all i=some e.1:=by
      rcases h2 with h2|h2
      ·exact absurd (Nat.eq_of_beq_eq_true h2).symm hQ.1
      ·simpa using h2
     cases II:dI all i with
     |none=>exact h0
     |some d=>
      rw[F5 (λh=>h3 (by rw[II,h]))];exact h0
    ·rw[Array.toList_setIfInBounds,List.count_set (by simpa using dF)];simp[YX,hc]
   have Z7:=hA.get i (by omega) (by omega);rw[MA]at Z7;unfold wpOp;rw[ho];rcases Z7 with Fv|⟨ME,IJ⟩
   ·replace Fv:IF all bV ress use cG i o.guard:=Fv;have Ro:Region.wanted o (yielded all.toArray a'.tmps)=false∧(∀y,(bV y).getD i undef=undef∧(ress y).getD i []=[])∧U=[]:=by
     cases AE:o.guard with
     |none=>rw[AE]at Fv;exact Fv.elim
     |some jb=>
      obtain⟨j,b⟩:=jb;rw[AE]at Fv;obtain⟨g1,g2,g3,g4⟩:=Fv;rw[Bool.and_eq_true,Bool.and_eq_true,Bool.not_eq_true']at g1;have hj:j∈cG.getD i []:=qg.1 g1.1.1;have IK:j≠i:=Nat.ne_of_beq_eq_false g1.1.2;obtain⟨d,vD⟩:=Option.isSome_iff_exists.1 g1.2;have h1:=hI.did j (MB j ((c4 j hj).resolve_left IK)) d vD;refine⟨?_,g3,g4⟩;have h0:((all.toArray[j]?).bind (·.dst))=some d:=by simpa[dI]using vD
      rcases g2 with g2|g2
      ·rw[g2 y]at h1;have h2:yielded all.toArray a'.tmps j=some (!b):=by
        unfold yielded;rw[h0];simp only[Option.bind_some,h1]
       simp[Region.wanted,AE,h2]
      ·rw[g2 y]at h1;have h2:yielded all.toArray a'.tmps j=none:=by
        unfold yielded;rw[h0];simp only[Option.bind_some,h1,undef]
       simp[Region.wanted,AE,h2]
    obtain⟨Ro,Z8,hU⟩:=Ro;simp only[Ro,if_false,Bool.false_eq_true];rw[hd];refine fin undef w' (y i) (λd _=>(Z8 _).1.symm) ?_;rw[(Z8 _).2,hU];rw[hU]at hh;exact hh
   ·have hw:Region.wanted o (yielded all.toArray a'.tmps)=true:=by
     replace ME:tj all bV cG i o.guard:=ME;cases AE:o.guard with
     |none=>simp[Region.wanted,AE]
     |some jb=>
      obtain⟨j,b⟩:=jb;rw[AE]at ME;obtain⟨g1,g2⟩:=ME;rw[Bool.and_eq_true,Bool.and_eq_true,Bool.not_eq_true']at g1;have hj:j∈cG.getD i []:=qg.1 g1.1.1;have IK:j≠i:=Nat.ne_of_beq_eq_false g1.1.2;obtain⟨d,vD⟩:=Option.isSome_iff_exists.1 g1.2;have h1:=hI.did j (MB j ((c4 j hj).resolve_left IK)) d vD;rw[g2 y]at h1;have h2:yielded all.toArray a'.tmps j=some b:=by
       unfold yielded;rw[show((all.toArray[j]?).bind (·.dst))=some d from by simpa[dI]using vD];simp only[Option.bind_some,h1]
      simp[Region.wanted,AE,h2]
    simp only[hw,if_true];left;have qE:=IJ o rfl a' w' y _ hI.fr (λj hj IK=>hI.did j (MB j ((c4 j hj).resolve_left IK))) a52 hh;obtain⟨ail,op0,ty0,aim,ain,aio⟩:=o;refine qE Q _ ?_;rintro v w2 ⟨g,hv,vC⟩;rw[hd];exact fin v w2 g hv vC
 have hl0:cN all.length ress L (λ_ _=>.nil) (ni all.length m cons (Array.replicate all.toArray.size false))=L:=by
  have IL:∀k,gv (Array.replicate all.toArray.size false) k=false:=by
   intro k;cases hb:gv (Array.replicate all.toArray.size false) k with
   |false=>rfl
   |true=>
    rw[qI,Array.getElem?_replicate]at hb;split at hb<;>cases hb
  have h1:ni all.length m cons (Array.replicate all.toArray.size false)=(List.range m).map (all.length+·):=by
   unfold ni;have hu:∀j,rS all.length cons (Array.replicate all.toArray.size false) j=false:=by
    intro j;unfold rS;rw[List.any_eq_false];intro k _;rw[IL];simp
   rw[List.range_add,List.filter_append];have p1:(List.range all.length).filter (λj=>(!(Nat.blt j all.length)||gv (Array.replicate all.toArray.size false) j)&&!(rS all.length cons (Array.replicate all.toArray.size false) j))=[]:=by
    rw[List.filter_eq_nil_iff];intro j hj;have:Nat.blt j all.length=true:=by simpa[Nat.blt,Nat.lt_iff_add_one_le]using List.mem_range.1 hj
    rw[this,IL];simp
   rw[p1,List.nil_append,List.filter_eq_self];intro j hj;obtain⟨k,_,rfl⟩:=List.mem_map.1 hj;have:Nat.blt (all.length+k) all.length=false:=by
    cases hb:Nat.blt (all.length+k) all.length with
    |false=>rfl
    |true=>
     have:all.length+k<all.length:=by simpa[Nat.blt,Nat.lt_iff_add_one_le]using hb
     omega
   rw[this,hu];rfl
  rw[h1];have h2:∀(q:List Nat),cN all.length ress L (λ_ _=>.nil) (q.map (all.length+·))=q.map λk=>L.getD k .none:=by
   intro q
   induction q with
   |nil=>rfl
   |cons k r ih=>
    have:Nat.blt (all.length+k) all.length=false:=by
     cases hb:Nat.blt (all.length+k) all.length with
     |false=>rfl
     |true=>
      have:all.length+k<all.length:=by simpa[Nat.blt,Nat.lt_iff_add_one_le]using hb
      omega
    simp only[List.map_cons,cN,this,cond_false,ih,Nat.add_sub_cancel_left];rfl
  rw[h2,←hL];apply List.ext_getElem
  ·simp
  ·intro i h1 h2;simp at h1;simp[h1]
 have IL:∀k,gv (Array.replicate all.toArray.size false) k=true→False:=by
  intro k hb;rw[qI,Array.getElem?_replicate]at hb;split at hb<;>cases hb
 refine key all.length (Array.replicate all.toArray.size false) a _ (λ_ _=>.nil) ⟨by simp,H,λi hi=>(IL i hi).elim,λi o hi=>(IL i hi).elim,?_,λk e he _=>hold k e he⟩ (by simp);rw[hl0];exact hS.below ⟨rfl,rfl,rfl,Nat.le_refl _,λ_ _=>rfl⟩
theorem a57{P:Program}{n id:Nat}{all:List Oper}{Q:Exit→Act→World→Prop}{a:Act}{w wE:World}{base:SF}{M:Av}{X:List Nat}{L:List a8}(N m:Nat)(bV:Gm→List Value)(ress:Gm→List (List a8))(use cons cG:List (List Nat))(e9:List (Nat×Nat×Value))
  (H:aw [] n base a)(hold:∀(k:Nat) e,e9[k]?=some e→a.tmps[e.1]?=some e.2.2)(oi:yn N all e9=true)(hS:SH M X wE L w)(hm:P.follows .mixedOrders=true)(hN:all.length=N)(hL:L.length=m)(iT:qH n base all=true)(kG:xc all=true)(pu:xf N m all use cons cG=true)(yu:gu N 0 λi=>tj all bV cG i ((all[i]?).bind (·.guard)))
  (vz:gu N 0 λj=>∀(y:Gm)(i:Nat)(g:Nat→Gh),i∉cG.getD j []→(bV (dG y i g)).getD j undef=(bV y).getD j undef∧(ress (dG y i g)).getD j []=(ress y).getD j [])
  (yv:gu N 0 λi=>∀o,all[i]?=some o→∀a' w' y M',aw [] n base a'→(∀j∈cG.getD i [],j≠i→∀d,dI all j=some d→a'.tmps[d]?=some ((bV y).getD j undef))→(∀(k:Nat) e,e9[k]?=some e→(Nat.beq e.2.1 i||reach all N e.2.1 i)=true→a'.tmps[e.1]?=some e.2.2)→S0 M' (cN N ress L y (use.getD i [])) w'→
   bh P (ti o) a' w' λv w2=>∃g:Nat→Gh,(∀d,dI all i=some d→v=(bV (dG y i g)).getD i undef)∧SH M' (ay (cN N ress L y (use.getD i []))) w' ((ress (dG y i g)).getD i []++cN N ress L y ((use.getD i []).filter λj=>!(gS (cons.getD i []) j))) w2)
  (hK:∀a' w' y,aw [] n base a'→(∀i d,dI all i=some d→a'.tmps[d]?=some ((bV y).getD i undef))→SH M X wE (cN N ress L y (uf N m cons)) w'→Q .normal a' w'):
  (Code.region id all.toArray true).wp P Q a w:=
  YR N m bV ress use cons cG e9 H hold oi hS hm hN hL iT kG pu vz ((yu.and yv).imp λ_ h=>.inr h) hK
theorem a58{y:Gm}{g:Nat→Gh}{i k:Nat}{l:List Nat}(hi:i∉l)(hk:gS l k=true):dG y i g k=y k:=a4V y g λe=>hi (e▸qg.1 hk)
def CZ(ks:List Nat)(y:Gm):Gm:=λk=>cond (gS ks k) (y k) (λ_=>.nil)
theorem Z9{P:Program}{n id:Nat}{all:List Oper}{a:Act}{w wE:World}{base:SF}{M:Av}{X:List Nat}{L:List a8}{N' R':dV}{ES:List (Nat×dV)}(N m:Nat)(bV:Gm→List Value)(ress:Gm→List (List a8))(use cons cG:List (List Nat))(e9:List (Nat×Nat×Value))
  (H:aw [] n base a)(hold:∀(k:Nat) e,e9[k]?=some e→a.tmps[e.1]?=some e.2.2)(oi:yn N all e9=true)(hS:SH M X wE L w)(hm:P.follows .mixedOrders=true)(hN:all.length=N)(hL:L.length=m)(iT:qH n base all=true)(kG:xc all=true)(pu:xf N m all use cons cG=true)(yu:gu N 0 λi=>tj all bV cG i ((all[i]?).bind (·.guard)))
  (vz:gu N 0 λj=>∀(y:Gm)(i:Nat)(g:Nat→Gh),i∉cG.getD j []→(bV (dG y i g)).getD j undef=(bV y).getD j undef∧(ress (dG y i g)).getD j []=(ress y).getD j [])
  (yv:gu N 0 λi=>∀o,all[i]?=some o→∀a' w' y M',aw [] n base a'→(∀j∈cG.getD i [],j≠i→∀d,dI all j=some d→a'.tmps[d]?=some ((bV y).getD j undef))→(∀(k:Nat) e,e9[k]?=some e→(Nat.beq e.2.1 i||reach all N e.2.1 i)=true→a'.tmps[e.1]?=some e.2.2)→S0 M' (cN N ress L y (use.getD i [])) w'→
   bh P (ti o) a' w' λv w2=>∃g:Nat→Gh,(∀d,dI all i=some d→v=(bV (dG y i g)).getD i undef)∧SH M' (ay (cN N ress L y (use.getD i []))) w' ((ress (dG y i g)).getD i []++cN N ress L y ((use.getD i []).filter λj=>!(gS (cons.getD i []) j))) w2)
  (hK:∀a' w' y,aw [] n base a'→(∀i d,dI all i=some d→a'.tmps[d]?=some ((bV y).getD i undef))→SH M X wE (cN N ress L y (uf N m cons)) w'→N' a' w'):(Code.region id all.toArray true).wp P (Qs N' ES R') a w:=a57 N m bV ress use cons cG e9 H hold oi hS hm hN hL iT kG pu yu vz yv hK
theorem a5a{P:Program}{n id:Nat}{all:List Oper}{a:Act}{w wE:World}{base:SF}{M:Av}{X:List Nat}{L:List a8}{N' R':dV}{ES:List (Nat×dV)}{z:Code}(N m:Nat)(bV:Gm→List Value)(ress:Gm→List (List a8))(use cons cG:List (List Nat))(e9:List (Nat×Nat×Value))
  (H:aw [] n base a)(hold:∀(k:Nat) e,e9[k]?=some e→a.tmps[e.1]?=some e.2.2)(oi:yn N all e9=true)(hS:SH M X wE L w)(hm:P.follows .mixedOrders=true)(hN:all.length=N)(hL:L.length=m)(iT:qH n base all=true)(kG:xc all=true)(pu:xf N m all use cons cG=true)(yu:gu N 0 λi=>tj all bV cG i ((all[i]?).bind (·.guard)))
  (vz:gu N 0 λj=>∀(y:Gm)(i:Nat)(g:Nat→Gh),i∉cG.getD j []→(bV (dG y i g)).getD j undef=(bV y).getD j undef∧(ress (dG y i g)).getD j []=(ress y).getD j [])
  (yv:gu N 0 λi=>∀o,all[i]?=some o→∀a' w' y M',aw [] n base a'→(∀j∈cG.getD i [],j≠i→∀d,dI all j=some d→a'.tmps[d]?=some ((bV y).getD j undef))→(∀(k:Nat) e,e9[k]?=some e→(Nat.beq e.2.1 i||reach all N e.2.1 i)=true→a'.tmps[e.1]?=some e.2.2)→S0 M' (cN N ress L y (use.getD i [])) w'→
   bh P (ti o) a' w' λv w2=>∃g:Nat→Gh,(∀d,dI all i=some d→v=(bV (dG y i g)).getD i undef)∧SH M' (ay (cN N ress L y (use.getD i []))) w' ((ress (dG y i g)).getD i []++cN N ress L y ((use.getD i []).filter λj=>!(gS (cons.getD i []) j))) w2)
  (hK:∀a' w' y,aw [] n base a'→(∀i d,dI all i=some d→a'.tmps[d]?=some ((bV y).getD i undef))→SH M X wE (cN N ress L y (uf N m cons)) w'→z.wp P (Qs N' ES R') a' w'):(Code.seq (.region id all.toArray true) z).wp P (Qs N' ES R') a w:=Aq (Z9 N m bV ress use cons cG e9 H hold oi hS hm hN hL iT kG pu yu vz yv hK)
theorem a5b{P:Program}{n id:Nat}{all:List Oper}{a:Act}{w wE:World}{base:SF}{M:Av}{X:List Nat}{L:List a8}{N' R':dV}{ES:List (Nat×dV)}(N m:Nat)(bV:Gm→List Value)(ress:Gm→List (List a8))(use cons cG:List (List Nat))(e9:List (Nat×Nat×Value))
  (H:aw [] n base a)(hold:∀(k:Nat) e,e9[k]?=some e→a.tmps[e.1]?=some e.2.2)(oi:yn N all e9=true)(hS:SH M X wE L w)(hm:P.follows .mixedOrders=true)(hN:all.length=N)(hL:L.length=m)(iT:qH n base all=true)(kG:xc all=true)(pu:xf N m all use cons cG=true)
  (vz:gu N 0 λj=>∀(y:Gm)(i:Nat)(g:Nat→Gh),i∉cG.getD j []→(bV (dG y i g)).getD j undef=(bV y).getD j undef∧(ress (dG y i g)).getD j []=(ress y).getD j [])
  (hA:gu N 0 λi=>IF all bV ress use cG i ((all[i]?).bind (·.guard))∨(tj all bV cG i ((all[i]?).bind (·.guard))∧∀o,all[i]?=some o→∀a' w' y M',aw [] n base a'→(∀j∈cG.getD i [],j≠i→∀d,dI all j=some d→a'.tmps[d]?=some ((bV y).getD j undef))→(∀(k:Nat) e,e9[k]?=some e→(Nat.beq e.2.1 i||reach all N e.2.1 i)=true→a'.tmps[e.1]?=some e.2.2)→S0 M' (cN N ress L y (use.getD i [])) w'→
   bh P (ti o) a' w' λv w2=>∃g:Nat→Gh,(∀d,dI all i=some d→v=(bV (dG y i g)).getD i undef)∧SH M' (ay (cN N ress L y (use.getD i []))) w' ((ress (dG y i g)).getD i []++cN N ress L y ((use.getD i []).filter λj=>!(gS (cons.getD i []) j))) w2))
  (hK:∀a' w' y,aw [] n base a'→(∀i d,dI all i=some d→a'.tmps[d]?=some ((bV y).getD i undef))→SH M X wE (cN N ress L y (uf N m cons)) w'→N' a' w'):(Code.region id all.toArray true).wp P (Qs N' ES R') a w:=YR N m bV ress use cons cG e9 H hold oi hS hm hN hL iT kG pu vz hA hK
theorem a5c{P:Program}{n id:Nat}{all:List Oper}{a:Act}{w wE:World}{base:SF}{M:Av}{X:List Nat}{L:List a8}{N' R':dV}{ES:List (Nat×dV)}{z:Code}(N m:Nat)(bV:Gm→List Value)(ress:Gm→List (List a8))(use cons cG:List (List Nat))(e9:List (Nat×Nat×Value))
  (H:aw [] n base a)(hold:∀(k:Nat) e,e9[k]?=some e→a.tmps[e.1]?=some e.2.2)(oi:yn N all e9=true)(hS:SH M X wE L w)(hm:P.follows .mixedOrders=true)(hN:all.length=N)(hL:L.length=m)(iT:qH n base all=true)(kG:xc all=true)(pu:xf N m all use cons cG=true)
  (vz:gu N 0 λj=>∀(y:Gm)(i:Nat)(g:Nat→Gh),i∉cG.getD j []→(bV (dG y i g)).getD j undef=(bV y).getD j undef∧(ress (dG y i g)).getD j []=(ress y).getD j [])
  (hA:gu N 0 λi=>IF all bV ress use cG i ((all[i]?).bind (·.guard))∨(tj all bV cG i ((all[i]?).bind (·.guard))∧∀o,all[i]?=some o→∀a' w' y M',aw [] n base a'→(∀j∈cG.getD i [],j≠i→∀d,dI all j=some d→a'.tmps[d]?=some ((bV y).getD j undef))→(∀(k:Nat) e,e9[k]?=some e→(Nat.beq e.2.1 i||reach all N e.2.1 i)=true→a'.tmps[e.1]?=some e.2.2)→S0 M' (cN N ress L y (use.getD i [])) w'→
   bh P (ti o) a' w' λv w2=>∃g:Nat→Gh,(∀d,dI all i=some d→v=(bV (dG y i g)).getD i undef)∧SH M' (ay (cN N ress L y (use.getD i []))) w' ((ress (dG y i g)).getD i []++cN N ress L y ((use.getD i []).filter λj=>!(gS (cons.getD i []) j))) w2))
  (hK:∀a' w' y,aw [] n base a'→(∀i d,dI all i=some d→a'.tmps[d]?=some ((bV y).getD i undef))→SH M X wE (cN N ress L y (uf N m cons)) w'→z.wp P (Qs N' ES R') a' w'):(Code.seq (.region id all.toArray true) z).wp P (Qs N' ES R') a w:=Aq (a5b N m bV ress use cons cG e9 H hold oi hS hm hN hL iT kG pu vz hA hK)
def Rq{H:Type}(P:Program)(W:World)(enc:TypeId×Value→H)(t:TypeId){α:Type}(T:Ty α)(wf:α→Prop):Prop:=
 ∀(n:Nat)(cs:List Value) x,DataW.trod enc P W 0 (λ_=>true) true n t cs=some x→∃(v:α)(g:Nat→Gh),cs=T.enc v g∧T.bJ F0 W v g∧wf v
theorem Za{w:World}{a:Addr}{v:Value}(h:w.cell? a=some v):a.block<w.heap.size:=by
 unfold World.cell? at h;rcases Nat.lt_or_ge a.block w.heap.size with h1|h1
 ·exact h1
 ·rw[Array.getElem?_eq_none h1]at h;simp at h
theorem Addr.a5d(b o i:Nat):(⟨b,o,none⟩:Addr).add i=⟨b,o+i,none⟩:=by
 unfold Addr.add;split
 ·rename_i h;subst h;rfl
 ·rfl
theorem a5e{α:Type}{B:Type}[Nonempty B]:∀{n:Nat}(p:Nat→α→B→Prop),(∀i,i<n→∃v b,p i v b)→∃(l:List α)(s:Nat→B),∃(hl:l.length=n),∀i (h:i<n),p i (l[i]'(by omega)) (s i):=by
 intro n p h
 classical
 rcases Nat.eq_zero_or_pos n with rfl|h0
 ·exact⟨[],λ_=>Classical.choice inferInstance,rfl,λi h=>absurd h (by omega)⟩
 ·obtain⟨v0,b0,_⟩:=h 0 h0;have:Nonempty α:=⟨v0⟩;have:Nonempty B:=⟨b0⟩
  let f:Nat→α:=λi=>if hi:i<n then(h i hi).choose else v0
  let s:Nat→B:=λi=>if hi:i<n then(h i hi).choose_spec.choose else b0
  refine⟨(List.range n).map f,s,by simp,λi hi=>?_⟩;have:=(h i hi).choose_spec.choose_spec;simpa[f,s,hi]using this
section
variable {H:Type} {P:Program} {W:World} {enc:TypeId×Value→H}
theorem tk{t:TypeId}{k:IntKind}(hu:P.underlying t=some (.int k)):Rq P W enc t (tI k) λv=>(Lit.int k v).wf=true:=by
 intro n cs x h;cases n with
 |zero=>simp[DataW.trod]at h
 |succ n=>
  unfold DataW.trod at h;rw[hu]at h;split at h<;>first|(rename_i he _;cases he;done)|skip
  all_goals simp_all
  all_goals first
   |(obtain⟨⟨rfl,hw⟩,_⟩:=h;exact⟨_,λ_=>.nil,rfl,trivial,hw⟩)
   |skip
theorem MF{t:TypeId}(hu:P.underlying t=some .bool):Rq P W enc t tB λ_=>True:=by
 intro n cs x h;cases n with
 |zero=>simp[DataW.trod]at h
 |succ n=>
  unfold DataW.trod at h;rw[hu]at h;rcases cs with _|⟨c,_|⟨c2,r⟩⟩
  ·simp at h
  ·cases c<;>simp at h;rename_i b;exact⟨b,λ_=>.nil,rfl,trivial,trivial⟩
  ·simp at h
theorem gw{cs e r:List Value}{o k c:Nat}(hc:c=k)(h:(cs.drop o).take c=e)(h2:cs.drop (o+k)=r):cs.drop o=e++r:=by
 subst hc;rw[←List.take_append_drop c (cs.drop o),h,List.drop_drop,h2]
theorem ug{cs:List Value}{o:Nat}(h:cs.length=o):cs.drop o=[]:=List.drop_eq_nil_of_le (by omega)
end
theorem Rr{P:Program}{W:World}{name:String}{k:IntKind}{zs:List Int}{g:Nat}{t e:TypeId}{n:Nat}
  (hg:P.globalNamed name=some g)(Ru:(P.globals[g]?).map (·.type)=some t)(ht:P.underlying t=some (.array n e))(he:P.underlying e=some (.int k))(Il:P.cellsOf e=1)(Rv:P.cellsOf t=n)
  (hn:zs.length=n)(h:Lib.VarReads P W name (Lib.tabData k zs))(nI:Nat.blt 0 n=true):aP (tI k) F0 W zs (Gh.mk (some ⟨g,0,none⟩) n λ_ _=>.nil):=by
 obtain⟨g',t',cs,fuel,p,xa,Rx,Ry,hd⟩:=h;obtain rfl:=Option.some.inj (hg.symm.trans xa);obtain rfl:=Option.some.inj (Ru.symm.trans Rx);have Fw:Lib.TabIs P W name k zs:=by unfold Lib.TabIs;rw[Ry,←Lib.cells_of_tab ht he Il Rv hd]
 have hp:0<n:=by simpa[Nat.blt,Nat.lt_iff_add_one_le]using nI
 refine⟨⟨λ_=>rfl,λ_=>?_,λ_ h=>h.elim,λi hi j v hv=>?_,Nat.le_of_eq hn⟩,λi hi=>trivial⟩
 ·exact Za (Fw.cell hg 0 (by omega))
 ·have hj:j=0:=by
   rcases j with _|j
   ·rfl
   ·simp[tI,Ty.flat]at hv
  subst hj;have h1:v=.int k zs[i]:=by simpa[tI,Ty.flat]using hv.symm
  subst h1;have:=Fw.cell hg i hi;have h2:zs.getD i 0=zs[i]:=by simp[List.getD,List.getElem?_eq_getElem hi]
  rw[h2]at this;have h3:i*(tI k).z=i:=Nat.mul_one i;show W.cell? ⟨g,0+i*(tI k).z+0,none⟩=_;rw[h3,Nat.zero_add];exact this
theorem a5f{P:Program}{f:FuncId}{args:Array Value}{v:Value}{w:World}{L:List a8}(hL:S0 F0 L w∧ay L=[])(h:S0 F0 L w→Calls P f args w λe qB=>∃u,e=.returned u∧u=v∧SH F0 (ay L) w [] qB):
  Calls P f args w (Pure v w):=by
 refine(h hL.1).mono ?_;rintro e qB ⟨u,rfl,rfl,hS⟩;refine⟨rfl,?_⟩;have:=hS.kp;rw[hL.2]at this;exact this.below
def T(D:List Deferred)(n:Nat)(M:Av)(X:List Nat)(w0:World)(l:SF)(L:List a8)(N:dV):Prop:=
 ∀a w,aw D n l a→SH M X w0 L w→N a w
def fz:List Nat→List Value→SF
 |k::ks,v::vs=>(k,[],v)::fz ks vs
 |_,_=>[]
structure Pk(S:World→Prop) where
 v:Option Value
 p:Ob
 h:∀w,S w→p w
def fZ{S:World→Prop}:List (Pk S)→List Value
 |[]=>[]
 |q::r=>match q.v with
  |some v=>v::fZ r
  |none=>fZ r
def gb{S:World→Prop}:List (Pk S)→List Ob
 |[]=>[]
 |q::r=>q.p::gb r
theorem xh{S:World→Prop}{w:World}(h:S w):∀q:List (Pk S),rM (gb q) w
 |[]=>trivial
 |q::r=>⟨q.h w h,xh h r⟩
section
variable {S:World→Prop}
def kh{p:Prop}(h:p):Pk S:=⟨none,λ_=>p,λ_ _=>h⟩
def kc{P:Program}{f:FuncId}{args:Array Value}{v:Value}(h:Al P f args v):Pk S:=⟨some v,λw=>kD P f args v w,λ_ _=>h.b⟩
def kr{P:Program}{f:FuncId}{args:Array Value}{v:Value}(h:∀w,S w→kD P f args v w):Pk S:=⟨some v,λw=>kD P f args v w,h⟩
def ka{b:Addr}{v:Value}(h:∀w,S w→c9 b v w):Pk S:=⟨some v,c9 b v,h⟩
def kn{b o:Nat}{cs:List Value}(h:∀w,S w→bZ b o cs 0 w):Pk S:=⟨some (.agg ⟨cs⟩),bZ b o cs 0,h⟩
def nK(c:Prop){p:Prop}(h:c→p):Pk S:=⟨none,λ_=>c→p,λ_ _=>h⟩
def fv(c:Prop){P:Program}{f:FuncId}{args:Array Value}{v:Value}(h:c→Al P f args v):Pk S:=⟨some v,λw=>c→kD P f args v w,λ_ _ hc=>(h hc).b⟩
def fw(c:Prop){P:Program}{f:FuncId}{args:Array Value}{v:Value}(h:∀w,S w→c→kD P f args v w):Pk S:=⟨some v,λw=>c→kD P f args v w,h⟩
end
section
variable {D:List Deferred} {n:Nat} {M:Av} {X:List Nat} {w0:World} {l:SF} {L:List a8} {N R:dV} {ES:List (Nat×dV)} {P:Program} {Q:Exit→Act→World→Prop} {all:List Oper} {id:Nat}
def kb(k o:Nat){b:Nat}{cs:List Value}{v:Value}(hk:L[k]?=some (.lJ b cs):=by rfl)(hv:cs[o]?=some v:=by rfl):Pk (SH M X w0 L):=⟨some v,c9 ⟨b,o,none⟩ v,λ_ h=>(h.bk k hk).c9 hv⟩
def ko(k o:Nat){b:Nat}{cs:List Value}{v:Value}(hk:L[k]?=some (.ro b cs):=by rfl)(hv:cs[o]?=some v:=by rfl):Pk (SH M X w0 L):=⟨some v,c9 ⟨b,o,none⟩ v,λ_ h=>(h.ro k hk).c9 hv⟩
def kE(k n:Nat){b:Nat}{cs:List Value}(hk:L[k]?=some (.lJ b cs):=by rfl):Pk (SH M X w0 L):=⟨some (.agg ⟨cs.take n⟩),bZ b 0 (cs.take n) 0,λ_ h=>(h.bk k hk).eU (by simp[List.length_take,List.take_eq_take_iff])⟩
theorem aN{a:Act}{w:World}(H:aw D n l a)(hS:SH M X w0 L w)(h:T D n M X w0 l L N):N a w:=h a w H hS
theorem dm{y:Code}(ks:List Nat)(vs:List Value)(q:List (Pk (SH M X w0 L)))(h:T D n M X w0 (fz ks vs) L λa w=>y.wp P (Qs N ES R) a w)
  (he:ja P n all (fZ q) l ks=some (fz ks vs,gb q):=by kernel_rfl):T D n M X w0 l L λa w=>(Code.seq (.region id all.toArray false) y).wp P (Qs N ES R) a w:=
 λ_ _ H hS=>Fa (fZ q) ks _ (gb q) H he (xh hS q) λ_ _ H' hb=>h _ _ H' (hS.below hb)
theorem qK(ks:List Nat)(vs:List Value)(q:List (Pk (SH M X w0 L)))(h:T D n M X w0 (fz ks vs) L N)
  (he:ja P n all (fZ q) l ks=some (fz ks vs,gb q):=by kernel_rfl):T D n M X w0 l L λa w=>(Code.region id all.toArray false).wp P (Qs N ES R) a w:=
 λ_ _ H hS=>QO (fZ q) ks _ (gb q) H he (xh hS q) λ_ _ H' hb=>h _ _ H' (hS.below hb)
theorem lZ{y:Code}(ks:List Nat)(vs:List Value)(q:List (Pk (SH M X w0 L)))(h:T D n M X w0 (fz ks vs) L λa w=>y.wp P (Qs N ES R) a w)
  (he:ja P n all (fZ q) l ks=some (fz ks vs,gb q):=by kernel_rfl)(hm:P.follows .mixedOrders=true:=by kernel_rfl)(hB:Region.lexB .any all.toArray=true:=by kernel_rfl):T D n M X w0 l L λa w=>(Code.seq (.region id all.toArray true) y).wp P (Qs N ES R) a w:=
 λ_ _ H hS=>a4h (fZ q) ks _ (gb q) H hm hB he (xh hS q) λ_ _ H' hb=>h _ _ H' (hS.below hb)
theorem MG(ks:List Nat)(vs:List Value)(q:List (Pk (SH M X w0 L)))(h:T D n M X w0 (fz ks vs) L N)
  (he:ja P n all (fZ q) l ks=some (fz ks vs,gb q):=by kernel_rfl)(hm:P.follows .mixedOrders=true:=by kernel_rfl)(hB:Region.lexB .any all.toArray=true:=by kernel_rfl):T D n M X w0 l L λa w=>(Code.region id all.toArray true).wp P (Qs N ES R) a w:=
 λ_ _ H hS=>Y2 (fZ q) ks _ (gb q) H hm hB he (xh hS q) λ_ _ H' hb=>h _ _ H' (hS.below hb)
theorem fQ{i:Nat}(j:Nat)(ks:List Nat)(vs:List Value)(q:List (Pk (SH M X w0 L)))(h:T D n M X w0 (fz ks vs) L λa w=>wpList P all.toArray Q (all.drop j) a w)
  (he:Fc P n all i j (fZ q) l ks=some (fz ks vs,gb q):=by kernel_rfl)(dL:Nat.ble i j=true:=by rfl):T D n M X w0 l L λa w=>wpList P all.toArray Q (all.drop i) a w:=
 λ_ _ H hS=>QQ i j (fZ q) ks _ (gb q) H dL he (xh hS q) λ_ _ H' hb=>h _ _ H' (hS.below hb)
theorem dH(h:T D n M X w0 l L λa w=>wpList P all.toArray (Qs N ES R) (all.drop 0) a w):T D n M X w0 l L λa w=>(Code.region id all.toArray false).wp P (Qs N ES R) a w:=
 λ_ _ H hS=>Y4 (h _ _ H hS)
theorem aM{y:Code}(h:T D n M X w0 l L λa w=>wpList P all.toArray (Qs (λa w=>y.wp P (Qs N ES R) a w) ES R) (all.drop 0) a w):T D n M X w0 l L λa w=>(Code.seq (.region id all.toArray false) y).wp P (Qs N ES R) a w:=
 λ_ _ H hS=>Aq (Y4 (h _ _ H hS))
theorem aC{i:Nat}(h:T D n M X w0 l L N)(hi:Nat.ble all.length i=true:=by rfl):T D n M X w0 l L λa w=>wpList P all.toArray (Qs N ES R) (all.drop i) a w:=
 λ_ _ H hS=>a4l hi (h _ _ H hS)
theorem az{x y:Code}(h:T D n M X w0 l L λa w=>x.wp P (Qs (λa w=>y.wp P (Qs N ES R) a w) ES R) a w):T D n M X w0 l L λa w=>(Code.seq x y).wp P (Qs N ES R) a w:=
 λ_ _ H hS=>Aq (h _ _ H hS)
theorem aq(h:T D n M X w0 l L N):T D n M X w0 l L λa w=>Code.skip.wp P (Qs N ES R) a w:=λ_ _ H hS=>a4d (h _ _ H hS)
theorem aL{i:Nat}{c:Code}(h:T D n M X w0 l L λa w=>c.wp P (Qs N ((i,N)::ES) R) a w):T D n M X w0 l L λa w=>(Code.block i c).wp P (Qs N ES R) a w:=λ_ _ H hS=>a4g (h _ _ H hS)
theorem aR(h:T D n M X w0 l L R):T D n M X w0 l L λa w=>Code.ret.wp P (Qs N ES R) a w:=λ_ _ H hS=>a4e (h _ _ H hS)
theorem bn{i:Nat}{E:dV}(h:T D n M X w0 l L E)(hi:CM ES i=some E:=by rfl):T D n M X w0 l L λa w=>(Code.exit i).wp P (Qs N ES R) a w:=λ_ _ H hS=>a4f hi (h _ _ H hS)
theorem qL{c:Operand}{x y:Code}{t:Bool}(h1:t=true→T D n M X w0 l L λa w=>x.wp P (Qs N ES R) a w)(h2:t=false→T D n M X w0 l L λa w=>y.wp P (Qs N ES R) a w)(hc:ev l [] c=some (.bool t):=by rfl):
  T D n M X w0 l L λa w=>(Code.cond c x y).wp P (Qs N ES R) a w:=λ_ _ H hS=>qF H hc (λh=>h1 h _ _ H hS) (λh=>h2 h _ _ H hS)
theorem D0{α:Type}{c:Operand}{x y:Code}{t:Bool}{p q r:α}(hm:cond t p q=r)(h1:p=r→T D n M X w0 l L λa w=>x.wp P (Qs N ES R) a w)(h2:q=r→T D n M X w0 l L λa w=>y.wp P (Qs N ES R) a w)(hc:ev l [] c=some (.bool t):=by rfl):
  T D n M X w0 l L λa w=>(Code.cond c x y).wp P (Qs N ES R) a w:=λ_ _ H hS=>qF H hc (λh=>h1 (bT h hm) _ _ H hS) (λh=>h2 (bF h hm) _ _ H hS)
theorem Zb{α:Type}{c:Operand}{x y:Code}{t:Bool}{p:Option α}{r:α}(hm:cond t p none=some r)(h1:p=some r→T D n M X w0 l L λa w=>x.wp P (Qs N ES R) a w)(hc:ev l [] c=some (.bool t):=by rfl):
  T D n M X w0 l L λa w=>(Code.cond c x y).wp P (Qs N ES R) a w:=D0 hm h1 (λh=>cM h) hc
theorem D1{α:Type}{c:Operand}{x y:Code}{t:Bool}{q:Option α}{r:α}(hm:cond t none q=some r)(h2:q=some r→T D n M X w0 l L λa w=>y.wp P (Qs N ES R) a w)(hc:ev l [] c=some (.bool t):=by rfl):
  T D n M X w0 l L λa w=>(Code.cond c x y).wp P (Qs N ES R) a w:=D0 hm (λh=>cM h) h2 hc
theorem aB(ks:List Nat)(h:T D n M X w0 l (dS L ks) N)(hk:jN L ks=true:=by rfl):T D n M X w0 l L N:=λ_ _ H hS=>h _ _ H (hS.aV ks hk)
theorem cQ{α:Type}(E:TypeId)(Y:Ty α)(h:T D n M X w0 l (.own E Y ([]:List α) .nil::L) N):T D n M X w0 l L N:=λ_ _ H hS=>h _ _ H (hS.CS E Y)
theorem jO{α:Type}{E:TypeId}{Y:Ty α}{q:List α}{g:Gh}(ks:List Nat)(h:T D n M X w0 l (.im Y q g::(dS L ks).tail) N)(hL:dS L ks=.own E Y q g::(dS L ks).tail:=by rfl)(hk:jN L ks=true:=by rfl):T D n M X w0 l L N:=
 λ_ _ H hS=>h _ _ H (SH.fJ (by rw[←hL];exact hS.aV ks hk))
def Cu(D:List Deferred)(n:Nat)(M:Av)(X:List Nat)(w0:World)(l:SF)(L:List a8):dV:=λa w=>aw D n l a∧SH M X w0 L w
theorem t_e{l':SF}{L':List a8}(ks:List Nat)(hl:aQ l ks=some l':=by kernel_rfl)(hL:L=L':=by rfl):T D n M X w0 l L (Cu D n M X w0 l' L'):=λ_ _ H hS=>⟨aw.aQ H hl,by subst hL;exact hS⟩
def Cg{γ:Type}(D:List Deferred)(n:Nat)(M:Av)(X:List Nat)(w0:World)(l:γ→SF)(L:γ→List a8):dV:=λa w=>∃g,aw D n (l g) a∧SH M X w0 (L g) w
theorem Zc{γ:Type}{x y:Code}(ks:List Nat)(vs:γ→List Value)(L':γ→List a8)(h:T D n M X w0 l L λa w=>x.wp P (Qs (Cg D n M X w0 (λg=>fz ks (vs g)) L') ES R) a w)(h2:∀g,T D n M X w0 (fz ks (vs g)) (L' g) λa w=>y.wp P (Qs N ES R) a w):
  T D n M X w0 l L λa w=>(Code.seq x y).wp P (Qs N ES R) a w:=λ_ _ H hS=>dh _ (h _ _ H hS) λa w ⟨g,h⟩=>h2 g a w h.1 h.2
theorem a5g{γ:Type}{l':γ→SF}{L':γ→List a8}(g:γ)(ks:List Nat)(hl:aQ l ks=some (l' g):=by kernel_rfl)(hL:L=L' g:=by rfl):T D n M X w0 l L (Cg D n M X w0 l' L'):=λ_ _ H hS=>⟨g,aw.aQ H hl,by rw[←hL];exact hS⟩
theorem ek{γ:Type}{i d:Nat}{o:Oper}{F:γ→Value}{E:γ→List a8}(kt rt ks:List Nat)(vs:List Value)
  (hs:∀a w,aw D n l a→S0 (dO M (dS L rt)) (dS L kt) w→bh P o a w λv w'=>∃g,v=F g∧SH (dO M (dS L rt)) (ay (dS L kt)) w (E g) w')
  (h:∀g,T D n M X w0 ((d,[],F g)::fz ks vs) (E g++dS L rt) λa w=>wpList P all.toArray Q (all.drop (i+1)) a w)
  (ho:all[i]?=some o:=by rfl)(hg:o.guard=none:=by rfl)(qG:o.dst=some d:=by rfl)(hd:Nat.blt d n=true:=by rfl)(hk:∀v,aQ (nG l d [] v) (d::ks)=some ((d,[],v)::fz ks vs):=by intro v;kernel_rfl)
  (h1:jN L kt=true:=by rfl)(h2:rO L rt kt=true:=by rfl)(h3:jN L rt=true:=by rfl):T D n M X w0 l L λa w=>wpList P all.toArray Q (all.drop i) a w:=
 λ_ w H hS=>fY (d::ks) _ H ho hg qG hd (hs _ w H (hS.hand kt rt h1 h2)) hk λ_ _ _ H' ⟨g,e,hq⟩=>h g _ _ (e▸H') (hS.join kt rt h3 h2 hq)
theorem tl{i d:Nat}{o:Oper}{v:Value}{E:List a8}(kt rt ks:List Nat)(vs:List Value)
  (hs:∀a w,aw D n l a→S0 (dO M (dS L rt)) (dS L kt) w→bh P o a w λu w'=>u=v∧SH (dO M (dS L rt)) (ay (dS L kt)) w E w')
  (h:T D n M X w0 ((d,[],v)::fz ks vs) (E++dS L rt) λa w=>wpList P all.toArray Q (all.drop (i+1)) a w)
  (ho:all[i]?=some o:=by rfl)(hg:o.guard=none:=by rfl)(qG:o.dst=some d:=by rfl)(hd:Nat.blt d n=true:=by rfl)(hk:∀v,aQ (nG l d [] v) (d::ks)=some ((d,[],v)::fz ks vs):=by intro v;kernel_rfl)
  (h1:jN L kt=true:=by rfl)(h2:rO L rt kt=true:=by rfl)(h3:jN L rt=true:=by rfl):T D n M X w0 l L λa w=>wpList P all.toArray Q (all.drop i) a w:=
 λ_ w H hS=>fY (d::ks) _ H ho hg qG hd (hs _ w H (hS.hand kt rt h1 h2)) hk λ_ _ _ H' ⟨e,hq⟩=>h _ _ (e▸H') (hS.join kt rt h3 h2 hq)
theorem oY{i:Nat}{o:Oper}{E:List a8}(kt rt ks:List Nat)(vs:List Value)
  (hs:∀a w,aw D n l a→S0 (dO M (dS L rt)) (dS L kt) w→bh P o a w λ_ w'=>SH (dO M (dS L rt)) (ay (dS L kt)) w E w')
  (h:T D n M X w0 (fz ks vs) (E++dS L rt) λa w=>wpList P all.toArray Q (all.drop (i+1)) a w)
  (ho:all[i]?=some o:=by rfl)(hg:o.guard=none:=by rfl)(qG:o.dst=none:=by rfl)(hk:aQ l ks=some (fz ks vs):=by rfl)
  (h1:jN L kt=true:=by rfl)(h2:rO L rt kt=true:=by rfl)(h3:jN L rt=true:=by rfl):T D n M X w0 l L λa w=>wpList P all.toArray Q (all.drop i) a w:=
 λ_ w H hS=>ud ks _ H ho hg qG (hs _ w H (hS.hand kt rt h1 h2)) hk λ_ _ H' ⟨_,hq⟩=>h _ _ H' (hS.join kt rt h3 h2 hq)
end
section
variable {D:List Deferred} {n:Nat} {M:Av} {X:List Nat} {w0:World} {l:SF} {L:List a8} {N R:dV} {ES:List (Nat×dV)} {P:Program} {Q:Exit→Act→World→Prop} {all:List Oper} {id:Nat}
end
def D2(all:List Oper)(vs:List Value)(i:Nat):List Nat→SF
 |[]=>[]
 |j::r=>match Nat.beq j i,dI all j with
  |false,some d=>(d,[],vs.getD j undef)::D2 all vs i r
  |_,_=>D2 all vs i r
theorem MH{D:List Deferred}{n:Nat}{base:SF}{all:List Oper}{vs:List Value}{i:Nat}{a:Act}(H:aw D n base a):∀l:List Nat,(∀j∈l,j≠i→∀d,dI all j=some d→a.tmps[d]?=some (vs.getD j undef))→aw D n (D2 all vs i l++base) a
 |[],_=>H
 |j::r,h=>by
  have ih:=MH H r λk hk=>h k (List.mem_cons_of_mem _ hk);unfold D2;split
  ·rename_i d hj hd;exact ih.add (h j List.mem_cons_self (Nat.ne_of_beq_eq_false hj) d hd)
  ·exact ih
section
variable {P:Program} {n N:Nat} {base:SF} {all:List Oper} {bV:Gm→List Value} {ress:Gm→List (List a8)} {use cons cG:List (List Nat)} {e9:List (Nat×Nat×Value)} {L:List a8} {i j:Nat}
theorem lh(h:∀y,(bV y).getD j undef=(bV (CZ (cG.getD j []) y)).getD j undef∧(ress y).getD j []=(ress (CZ (cG.getD j []) y)).getD j []:=by exact λ_=>⟨rfl,rfl⟩):
  ∀(y:Gm)(i:Nat)(g:Nat→Gh),i∉cG.getD j []→(bV (dG y i g)).getD j undef=(bV y).getD j undef∧(ress (dG y i g)).getD j []=(ress y).getD j []:=by
 intro y i g hi;have e:CZ (cG.getD j []) (dG y i g)=CZ (cG.getD j []) y:=by
  funext k;unfold CZ;cases hb:gS (cG.getD j []) k with
  |false=>rfl
  |true=>simp only[cond_true];exact a58 hi hb
 rw[(h (dG y i g)).1,(h (dG y i g)).2,e,←(h y).1,←(h y).2];exact⟨rfl,rfl⟩
def MI(bV:Gm→List Value)(ress:Gm→List (List a8))(cG:List (List Nat))(j:Nat):Prop:=∀y,(bV y).getD j undef=(bV (CZ (cG.getD j []) y)).getD j undef∧(ress y).getD j []=(ress (CZ (cG.getD j []) y)).getD j []
theorem Rz(h:gu N 0 (MI bV ress cG)):gu N 0 λj=>∀(y:Gm)(i:Nat)(g:Nat→Gh),i∉cG.getD j []→(bV (dG y i g)).getD j undef=(bV y).getD j undef∧(ress (dG y i g)).getD j []=(ress y).getD j []:=
 gu.imp (λ_ h=>lh h) h
def obH:List Ob→Option Ob
 |[]=>none
 |o::_=>some o
theorem se(q:∀(y:Gm)(M':Av),List (Pk λw=>S0 M' (cN N ress L y (use.getD i [])) w))
  (he:∀(y:Gm)(M':Av),(all[i]?).bind (λo=>Ap P (D2 all (bV y) i (cG.getD i [])++base) [] o.op (fZ (q y M')))=some ⟨(bV (dG y i (gL []))).getD i undef,[],obH (gb (q y M'))⟩:=by intros;kernel_rfl)
  (hr:∀y,(ress y).getD i []=[]:=by exact λ_=>rfl)(hc:((use.getD i []).filter λj=>!(gS (cons.getD i []) j))=use.getD i []:=by rfl):
  ∀o,all[i]?=some o→∀a' w' y M',aw [] n base a'→(∀j∈cG.getD i [],j≠i→∀d,dI all j=some d→a'.tmps[d]?=some ((bV y).getD j undef))→(∀(k:Nat) e,e9[k]?=some e→(Nat.beq e.2.1 i||reach all N e.2.1 i)=true→a'.tmps[e.1]?=some e.2.2)→S0 M' (cN N ress L y (use.getD i [])) w'→
   bh P (ti o) a' w' λv w2=>∃g:Nat→Gh,(∀d,dI all i=some d→v=(bV (dG y i g)).getD i undef)∧SH M' (ay (cN N ress L y (use.getD i []))) w' ((ress (dG y i g)).getD i []++cN N ress L y ((use.getD i []).filter λj=>!(gS (cons.getD i []) j))) w2:=by
 intro o ho a' w' y M' Hb hv _ hS;have h:=he y M';rw[ho,Option.bind_some]at h;obtain⟨d,op,ty,pos,after,gd⟩:=o;refine bh.mono (oc (o:=⟨d,op,ty,pos,after,none⟩) (fZ (q y M')) _ _ [] (MH Hb _ hv) rfl h λob e=>?_) λv w2 hq=>⟨gL [],λ_ _=>hq.1,?_⟩
 ·have h1:=xh hS (q y M');cases hp:gb (q y M')with
  |nil=>rw[hp]at e;cases e
  |cons x r=>rw[hp]at e h1;cases e;exact h1.1
 ·rw[hr,hc,List.nil_append];exact hS.below hq.2.below
theorem bw(he:∀(y:Gm),(all[i]?).bind (λo=>Ap P (D2 all (bV y) i (cG.getD i [])++base) [] o.op [])=some ⟨(bV (dG y i (gL []))).getD i undef,[],none⟩:=by intros;kernel_rfl)
  (hr:∀y,(ress y).getD i []=[]:=by exact λ_=>rfl)(hc:((use.getD i []).filter λj=>!(gS (cons.getD i []) j))=use.getD i []:=by rfl):
  ∀o,all[i]?=some o→∀a' w' y M',aw [] n base a'→(∀j∈cG.getD i [],j≠i→∀d,dI all j=some d→a'.tmps[d]?=some ((bV y).getD j undef))→(∀(k:Nat) e,e9[k]?=some e→(Nat.beq e.2.1 i||reach all N e.2.1 i)=true→a'.tmps[e.1]?=some e.2.2)→S0 M' (cN N ress L y (use.getD i [])) w'→
   bh P (ti o) a' w' λv w2=>∃g:Nat→Gh,(∀d,dI all i=some d→v=(bV (dG y i g)).getD i undef)∧SH M' (ay (cN N ress L y (use.getD i []))) w' ((ress (dG y i g)).getD i []++cN N ress L y ((use.getD i []).filter λj=>!(gS (cons.getD i []) j))) w2:=
 se (λ_ _=>[]) (λy _=>he y) hr hc
end
theorem D3{P:Program}{n id:Nat}{all:List Oper}{a:Act}{w wE:World}{base:SF}{M:Av}{X:List Nat}{L:List a8}{N' R':dV}{ES:List (Nat×dV)}(N m:Nat)(bV:Gm→List Value)(ress:Gm→List (List a8))(use cons cG:List (List Nat))(e9:List (Nat×Nat×Value))
  (H:aw [] n base a)(hold:∀(k:Nat) e,e9[k]?=some e→a.tmps[e.1]?=some e.2.2)(oi:yn N all e9=true)(hS:SH M X wE L w)(hm:P.follows .mixedOrders=true)(hN:all.length=N)(hL:L.length=m)(iT:qH n base all=true)(kG:xc all=true)(pu:xf N m all use cons cG=true)(yu:gu N 0 λi=>tj all bV cG i ((all[i]?).bind (·.guard)))
  (yv:gu N 0 λi=>∀o,all[i]?=some o→∀a' w' y M',aw [] n base a'→(∀j∈cG.getD i [],j≠i→∀d,dI all j=some d→a'.tmps[d]?=some ((bV y).getD j undef))→(∀(k:Nat) e,e9[k]?=some e→(Nat.beq e.2.1 i||reach all N e.2.1 i)=true→a'.tmps[e.1]?=some e.2.2)→S0 M' (cN N ress L y (use.getD i [])) w'→
   bh P (ti o) a' w' λv w2=>∃g:Nat→Gh,(∀d,dI all i=some d→v=(bV (dG y i g)).getD i undef)∧SH M' (ay (cN N ress L y (use.getD i []))) w' ((ress (dG y i g)).getD i []++cN N ress L y ((use.getD i []).filter λj=>!(gS (cons.getD i []) j))) w2)
  (hK:∀a' w' y,aw [] n base a'→(∀i d,dI all i=some d→a'.tmps[d]?=some ((bV y).getD i undef))→SH M X wE (cN N ress L y (uf N m cons)) w'→N' a' w')(hl:gu N 0 (MI bV ress cG):=by repeat (first|exact trivial|refine And.intro (λ_=>⟨rfl,rfl⟩) ?_)):(Code.region id all.toArray true).wp P (Qs N' ES R') a w:=
 Z9 N m bV ress use cons cG e9 H hold oi hS hm hN hL iT kG pu yu (Rz hl) yv hK
theorem qM{P:Program}{n id:Nat}{all:List Oper}{a:Act}{w wE:World}{base:SF}{M:Av}{X:List Nat}{L:List a8}{N' R':dV}{ES:List (Nat×dV)}{z:Code}(N m:Nat)(bV:Gm→List Value)(ress:Gm→List (List a8))(use cons cG:List (List Nat))(e9:List (Nat×Nat×Value))
  (H:aw [] n base a)(hold:∀(k:Nat) e,e9[k]?=some e→a.tmps[e.1]?=some e.2.2)(oi:yn N all e9=true)(hS:SH M X wE L w)(hm:P.follows .mixedOrders=true)(hN:all.length=N)(hL:L.length=m)(iT:qH n base all=true)(kG:xc all=true)(pu:xf N m all use cons cG=true)(yu:gu N 0 λi=>tj all bV cG i ((all[i]?).bind (·.guard)))
  (yv:gu N 0 λi=>∀o,all[i]?=some o→∀a' w' y M',aw [] n base a'→(∀j∈cG.getD i [],j≠i→∀d,dI all j=some d→a'.tmps[d]?=some ((bV y).getD j undef))→(∀(k:Nat) e,e9[k]?=some e→(Nat.beq e.2.1 i||reach all N e.2.1 i)=true→a'.tmps[e.1]?=some e.2.2)→S0 M' (cN N ress L y (use.getD i [])) w'→
   bh P (ti o) a' w' λv w2=>∃g:Nat→Gh,(∀d,dI all i=some d→v=(bV (dG y i g)).getD i undef)∧SH M' (ay (cN N ress L y (use.getD i []))) w' ((ress (dG y i g)).getD i []++cN N ress L y ((use.getD i []).filter λj=>!(gS (cons.getD i []) j))) w2)
  (hK:∀a' w' y,aw [] n base a'→(∀i d,dI all i=some d→a'.tmps[d]?=some ((bV y).getD i undef))→SH M X wE (cN N ress L y (uf N m cons)) w'→z.wp P (Qs N' ES R') a' w')(hl:gu N 0 (MI bV ress cG):=by repeat (first|exact trivial|refine And.intro (λ_=>⟨rfl,rfl⟩) ?_)):(Code.seq (.region id all.toArray true) z).wp P (Qs N' ES R') a w:=
 a5a N m bV ress use cons cG e9 H hold oi hS hm hN hL iT kG pu yu (Rz hl) yv hK
theorem a5h{P:Program}{n id:Nat}{all:List Oper}{a:Act}{w wE:World}{base:SF}{M:Av}{X:List Nat}{L:List a8}{N' R':dV}{ES:List (Nat×dV)}{z:Code}(N m:Nat)(bV:Gm→List Value)(ress:Gm→List (List a8))(use cons cG:List (List Nat))(e9:List (Nat×Nat×Value))
  (H:aw [] n base a)(hold:∀(k:Nat) e,e9[k]?=some e→a.tmps[e.1]?=some e.2.2)(oi:yn N all e9=true)(hS:SH M X wE L w)(hm:P.follows .mixedOrders=true)(hN:all.length=N)(hL:L.length=m)(iT:qH n base all=true)(kG:xc all=true)(pu:xf N m all use cons cG=true)
  (hA:gu N 0 λi=>IF all bV ress use cG i ((all[i]?).bind (·.guard))∨(tj all bV cG i ((all[i]?).bind (·.guard))∧∀o,all[i]?=some o→∀a' w' y M',aw [] n base a'→(∀j∈cG.getD i [],j≠i→∀d,dI all j=some d→a'.tmps[d]?=some ((bV y).getD j undef))→(∀(k:Nat) e,e9[k]?=some e→(Nat.beq e.2.1 i||reach all N e.2.1 i)=true→a'.tmps[e.1]?=some e.2.2)→S0 M' (cN N ress L y (use.getD i [])) w'→
   bh P (ti o) a' w' λv w2=>∃g:Nat→Gh,(∀d,dI all i=some d→v=(bV (dG y i g)).getD i undef)∧SH M' (ay (cN N ress L y (use.getD i []))) w' ((ress (dG y i g)).getD i []++cN N ress L y ((use.getD i []).filter λj=>!(gS (cons.getD i []) j))) w2))
  (hK:∀a' w' y,aw [] n base a'→(∀i d,dI all i=some d→a'.tmps[d]?=some ((bV y).getD i undef))→SH M X wE (cN N ress L y (uf N m cons)) w'→z.wp P (Qs N' ES R') a' w')(hl:gu N 0 (MI bV ress cG):=by repeat (first|exact trivial|refine And.intro (λ_=>⟨rfl,rfl⟩) ?_)):(Code.seq (.region id all.toArray true) z).wp P (Qs N' ES R') a w:=
 a5c N m bV ress use cons cG e9 H hold oi hS hm hN hL iT kG pu (Rz hl) hA hK
section
variable {M:Av} {X:List Nat} {w0:World} {L:List a8}
def ki(k:Nat){α:Type}{Y:Ty α}{q:List α}{g:Gh}{ix:Int}(h:0≤ix∧ix<ln q)(hk:L[k]?=some (.im Y q g):=by rfl):Pk (SH M X w0 L):=⟨none,λ_=>dR g.a∧0≤ix∧ix<ln q,λ_ hS=>(hS.im k hk).iB h⟩
def kj(k j:Nat){α:Type}[Inhabited α]{Y:Ty α}{q:List α}{g:Gh}{ix:Int}{v:Value}(h:0≤ix∧ix<ln q)(hk:L[k]?=some (.im Y q g):=by rfl)(hv:(Y.enc (gi q ix) (g.s ix.toNat))[j]?=some v:=by rfl):Pk (SH M X w0 L):=⟨some v,c9 ⟨ab g.a,ao g.a+ix.toNat*Y.z+j,none⟩ v,λ_ hS=>(hS.im k hk).c9 h j hv⟩
def kI(k:Nat){α:Type}{E:TypeId}{Y:Ty α}{q:List α}{g:Gh}{ix:Int}(h:0≤ix∧ix<ln q)(hk:L[k]?=some (.own E Y q g):=by rfl):Pk (SH M X w0 L):=⟨none,λ_=>dR g.a∧0≤ix∧ix<ln q,λ_ hS=>(hS.cB k hk).iB h⟩
def kJ(k j:Nat){α:Type}[Inhabited α]{E:TypeId}{Y:Ty α}{q:List α}{g:Gh}{ix:Int}{v:Value}(h:0≤ix∧ix<ln q)(hk:L[k]?=some (.own E Y q g):=by rfl)(hv:(Y.enc (gi q ix) (g.s ix.toNat))[j]?=some v:=by rfl):Pk (SH M X w0 L):=⟨some v,c9 ⟨ab g.a,ao g.a+ix.toNat*Y.z+j,none⟩ v,λ_ hS=>(hS.cB k hk).c9 h j hv⟩
def jZ(c:Prop)(k:Nat){α:Type}{Y:Ty α}{q:List α}{g:Gh}{ix:Int}(h:c→0≤ix∧ix<ln q)(hk:L[k]?=some (.im Y q g):=by rfl):Pk (SH M X w0 L):=⟨none,λ_=>c→dR g.a∧0≤ix∧ix<ln q,λ_ hS hc=>(hS.im k hk).iB (h hc)⟩
def mc(c:Prop)(k j:Nat){α:Type}[Inhabited α]{Y:Ty α}{q:List α}{g:Gh}{ix:Int}{v:Value}(h:c→0≤ix∧ix<ln q)(hk:L[k]?=some (.im Y q g):=by rfl)(hv:(Y.enc (gi q ix) (g.s ix.toNat))[j]?=some v:=by rfl):Pk (SH M X w0 L):=⟨some v,λw=>c→c9 ⟨ab g.a,ao g.a+ix.toNat*Y.z+j,none⟩ v w,λ_ hS hc=>(hS.im k hk).c9 (h hc) j hv⟩
def mG(c:Prop)(k:Nat){α:Type}{E:TypeId}{Y:Ty α}{q:List α}{g:Gh}{ix:Int}(h:c→0≤ix∧ix<ln q)(hk:L[k]?=some (.own E Y q g):=by rfl):Pk (SH M X w0 L):=⟨none,λ_=>c→dR g.a∧0≤ix∧ix<ln q,λ_ hS hc=>(hS.cB k hk).iB (h hc)⟩
def mH(c:Prop)(k j:Nat){α:Type}[Inhabited α]{E:TypeId}{Y:Ty α}{q:List α}{g:Gh}{ix:Int}{v:Value}(h:c→0≤ix∧ix<ln q)(hk:L[k]?=some (.own E Y q g):=by rfl)(hv:(Y.enc (gi q ix) (g.s ix.toNat))[j]?=some v:=by rfl):Pk (SH M X w0 L):=⟨some v,λw=>c→c9 ⟨ab g.a,ao g.a+ix.toNat*Y.z+j,none⟩ v w,λ_ hS hc=>(hS.cB k hk).c9 (h hc) j hv⟩
def bP(c:Prop)(k o:Nat){b:Nat}{cs:List Value}{v:Value}(hk:L[k]?=some (.lJ b cs):=by rfl)(hv:cs[o]?=some v:=by rfl):Pk (SH M X w0 L):=⟨some v,λw=>c→c9 ⟨b,o,none⟩ v w,λ_ h _=>(h.bk k hk).c9 hv⟩
def kgo(c:Prop)(k o:Nat){b:Nat}{cs:List Value}{v:Value}(hk:L[k]?=some (.ro b cs):=by rfl)(hv:cs[o]?=some v:=by rfl):Pk (SH M X w0 L):=⟨some v,λw=>c→c9 ⟨b,o,none⟩ v w,λ_ h _=>(h.ro k hk).c9 hv⟩
end
section
variable {n:Nat} {M:Av} {X:List Nat} {w0:World} {l:SF} {L:List a8} {P:Program} {f:FuncId} {fn:Func} {c:Code} {args:List Value}
def Pn(v:Value)(E:List a8)(M:Av)(X:List Nat)(w:World):Ending→World→Prop:=λe w'=>∃u,e=.returned u∧u=v∧SH M X w E w'
def Pm{γ:Type}(F:γ→Value)(E:γ→List a8)(M:Av)(X:List Nat)(w:World):Ending→World→Prop:=λe w'=>∃u,e=.returned u∧∃g,u=F g∧SH M X w (E g) w'
def MJ{γ:Type}(P:Program)(f:FuncId)(args:Array Value)(L:List a8)(F:γ→Value)(E:γ→List a8):Prop:=∀(M:Av)(w:World),S0 M L w→eV P f args w λv w'=>∃g,v=F g∧SH M (ay L) w (E g) w'
def RA(P:Program)(f:FuncId)(args:Array Value)(L:List a8)(v:Value)(E:List a8):Prop:=∀(M:Av)(w:World),S0 M L w→eV P f args w λu w'=>u=v∧SH M (ay L) w E w'
theorem RB{γ:Type}{i d:Nat}{x:Operand}{ar:Array Operand}{ta:Array TypeId}{ty:TypeId}{pos:String}{after:Array Edge}{f:FuncId}{av first IM qC:List Value}{F:γ→Value}{E:γ→List a8}{L':List a8}{D:List Deferred}{all:List Oper}{N:Exit→Act→World→Prop}(kt rt ks:List Nat)(vs:List Value)(hc:MJ P f ⟨av⟩ L' F E)
  (h:∀g,T D n M X w0 ((d,[],F g)::fz ks vs) (E g++dS L rt) λa w=>wpList P all.toArray N (all.drop (i+1)) a w)
  (ho:all[i]?=some ⟨some d,.call ⟨.value x,ar,ta⟩,ty,pos,after,none⟩:=by rfl)(hx:callee l [] x=some (f,first,qC):=by rfl)(ha:o8 l [] ar.toList=some IM:=by rfl)(hv:first++IM++qC=av:=by rfl)(hL:dS L kt=L':=by rfl)
  (hd:Nat.blt d n=true:=by rfl)(hk:∀v,aQ (nG l d [] v) (d::ks)=some ((d,[],v)::fz ks vs):=by intro v;kernel_rfl)
  (h1:jN L kt=true:=by rfl)(h2:rO L rt kt=true:=by rfl)(h3:jN L rt=true:=by rfl):T D n M X w0 l L λa w=>wpList P all.toArray N (all.drop i) a w:=by
 subst hv hL;exact ek kt rt ks vs (λ_ _ H hS=>dv H hx ha (hc _ _ hS)) h ho rfl rfl hd hk h1 h2 h3
theorem df{v:Value}(hc:∀w,(callFunc f ⟨args⟩).run P w=.ok (.enter f ⟨args⟩) w)(hf:P.funcs[f]?=some fn)(hn:fn.ntmps=n)
  (h:∀(M:Av)(X:List Nat)(w:World),T [] n M X w (Ar args 0) [] λa w'=>c.wp P (Qs (Rp P fn (Pn v [] M X w)) [] (Rp P fn (Pn v [] M X w))) a w')(hb:fn.body=some c:=by rfl)(hl:Nat.ble args.length n=true:=by rfl):Al P f ⟨args⟩ v:=
 a4A hc λw hS=>dZ hf hb hn hl λ_ H=>h F0 (ay []) w _ _ H hS
theorem cu{v:Value}{w:World}(hL:S0 F0 L w∧ay L=[])(hc:∀w,(callFunc f ⟨args⟩).run P w=.ok (.enter f ⟨args⟩) w)(hf:P.funcs[f]?=some fn)(hn:fn.ntmps=n)
  (h:∀(M:Av)(X:List Nat)(w:World),T [] n M X w (Ar args 0) L λa w'=>c.wp P (Qs (Rp P fn (Pn v [] M X w)) [] (Rp P fn (Pn v [] M X w))) a w')(hb:fn.body=some c:=by rfl)(hl:Nat.ble args.length n=true:=by rfl):kD P f ⟨args⟩ v w:=
 ik hL hc λw hS=>dZ hf hb hn hl λ_ H=>h F0 (ay L) w _ _ H hS
theorem gy{γ:Type}{F:γ→Value}{E:γ→List a8}(hc:∀w,(callFunc f ⟨args⟩).run P w=.ok (.enter f ⟨args⟩) w)(hf:P.funcs[f]?=some fn)(hn:fn.ntmps=n)
  (h:∀(M:Av)(X:List Nat)(w:World),T [] n M X w (Ar args 0) L λa w'=>c.wp P (Qs (Rp P fn (Pm F E M X w)) [] (Rp P fn (Pm F E M X w))) a w')(hb:fn.body=some c:=by rfl)(hl:Nat.ble args.length n=true:=by rfl):MJ P f ⟨args⟩ L F E:=
 λM w hS=>⟨hc,dZ hf hb hn hl λ_ H=>h M (ay L) w _ _ H hS⟩
theorem Zd{v:Value}{E:List a8}(hc:∀w,(callFunc f ⟨args⟩).run P w=.ok (.enter f ⟨args⟩) w)(hf:P.funcs[f]?=some fn)(hn:fn.ntmps=n)
  (h:∀(M:Av)(X:List Nat)(w:World),T [] n M X w (Ar args 0) L λa w'=>c.wp P (Qs (Rp P fn (Pn v E M X w)) [] (Rp P fn (Pn v E M X w))) a w')(hb:fn.body=some c:=by rfl)(hl:Nat.ble args.length n=true:=by rfl):RA P f ⟨args⟩ L v E:=
 λM w hS=>⟨hc,dZ hf hb hn hl λ_ H=>h M (ay L) w _ _ H hS⟩
def Rs(P:Program)(fn:Func)(l:SF)(L:List a8)(v:Value):Prop:=∀n M X w0 a w (R:Ending→World→Prop),aw [] n l a→SH M X w0 L w→R (.returned v) w→Rp P fn R a w
theorem bj{E:List a8}{v:Value}(ks:List Nat)(hr:Rs P fn l L v)(hE:dS L ks=E:=by rfl)(hk:jN L ks=true:=by rfl):T [] n M X w0 l L (Rp P fn (Pn v E M X w0)):=
 λ_ _ H hS=>hr _ _ _ _ _ _ _ H hS ⟨_,rfl,rfl,hE▸hS.aV ks hk⟩
theorem db{γ:Type}{F:γ→Value}{E:γ→List a8}(g:γ)(ks:List Nat)(hr:Rs P fn l L (F g))(hE:dS L ks=E g:=by rfl)(hk:jN L ks=true:=by rfl):T [] n M X w0 l L (Rp P fn (Pm F E M X w0)):=
 λ_ _ H hS=>hr _ _ _ _ _ _ _ H hS ⟨_,rfl,g,rfl,hE▸hS.aV ks hk⟩
theorem rs0(hr:fn.results=#[]:=by rfl):Rs P fn l L (.tuple ⟨[]⟩):=λ_ _ _ _ _ _ _ H _ hR=>td H hr hR
theorem IP{t:Nat}{v:Value}(hr:fn.results=#[.tmp t]:=by rfl)(h:fI l t=some ([],v):=by rfl):Rs P fn l L v:=λ_ _ _ _ _ _ _ H _ hR=>tc H hr h hR
theorem Ze{t s:Nat}{v u:Value}(hr:fn.results=#[.tmp t,.tmp s]:=by rfl)(h:fI l t=some ([],v):=by rfl)(h2:fI l s=some ([],u):=by rfl):Rs P fn l L (.tuple ⟨[v,u]⟩):=λ_ _ _ _ _ _ _ H _ hR=>pq H hr h h2 hR
theorem rsa(k:Nat){t b:Nat}{Y:TypeId}{cs:List Value}{d:TypeDesc}(hu:P.underlying Y=some d)(hr:fn.results=#[.cell t Y]:=by rfl)(h:fI l t=some ([],.pointer (some ⟨b,0,none⟩)):=by rfl)(hk:L[k]?=some (.lJ b cs):=by rfl)
  (hd:(match d with| .struct _| .array _ _=>true|_=>false)=true:=by rfl)(hz:(P.info? Y).map (·.size)=some cs.length:=by kernel_rfl):Rs P fn l L (.agg ⟨cs⟩):=λ_ _ _ _ _ _ _ H hS hR=>tc H hr (qd h (hS.bk k hk) hu hd hz) hR
theorem a5i(k:Nat){t b s:Nat}{u:Value}{Y:TypeId}{cs:List Value}{d:TypeDesc}(hu:P.underlying Y=some d)(hr:fn.results=#[.cell t Y,.tmp s]:=by rfl)(h:fI l t=some ([],.pointer (some ⟨b,0,none⟩)):=by rfl)(h2:fI l s=some ([],u):=by rfl)(hk:L[k]?=some (.lJ b cs):=by rfl)
  (hd:(match d with| .struct _| .array _ _=>true|_=>false)=true:=by rfl)(hz:(P.info? Y).map (·.size)=some cs.length:=by kernel_rfl):Rs P fn l L (.tuple ⟨[.agg ⟨cs⟩,u]⟩):=λ_ _ _ _ _ _ _ H hS hR=>pq H hr (qd h (hS.bk k hk) hu hd hz) h2 hR
end
section
variable {P:Program} {a:Act} {w:World} {n:Nat} {l:SF} {M:Av} {D:List Deferred}
theorem a5j{α:Type}{T:Ty α}{d:Nat}{t E:TypeId}{len:Nat}{zv:Value}{parts:Array (Nat×Operand)}{ty:TypeId}{pos:String}{after:Array Edge}{L:List a8}(cs:List Value)(xs:List α)(gs:List (Nat→Gh)){vs:List Value}(H:aw D n l a)(hS:S0 M L w)(he:o8 l [] (parts.toList.map (·.2))=some vs)(iU:bd T (dO M L) w xs gs)
  (hu:P.underlying t=some (.slice E):=by kernel_rfl)(hz:(P.info? E).map (·.size)=some T.z:=by kernel_rfl)(pZ:(P.info? E).map (·.zero)=some (some zv):=by kernel_rfl)(hlen:Nat.ble (len*T.z) 16777216=true:=by kernel_rfl)(nI:Nat.blt 0 (len*T.z)=true:=by kernel_rfl)
  (hf:Instr.fill (λi=>some (i*T.z,T.z)) ((Array.range (len*T.z)).map (zv.cells[· %zv.cells.size]!)) ((parts.toList.map (·.1)).zip vs)=some ⟨cs⟩:=by kernel_rfl)(Iu:((da xs (sL gs) 0).map (fC T)).flatten=cs:=by kernel_rfl)(oe:xs.length=len:=by kernel_rfl):
  bh P ⟨some d,.buildSlice t len parts,ty,pos,after,none⟩ a w λv w'=>∃g:Gh,v=.slice g.a len g.c∧SH M (ay L) w [.own E T xs g] w':=Ms cs xs gs vs H hS he hu hz pZ hlen nI hf Iu oe iU
end
def mb(k:Nat):List Nat→Bool
 |[]=>false
 |x::r=>cond (Nat.beq x k) true (mb k r)
def dl(ks:List Nat):SF→SF
 |[]=>[]
 |e::r=>cond (mb e.1 ks) (dl ks r) (e::dl ks r)
def ky:SF→List Nat
 |[]=>[]
 |e::r=>e.1::ky r
def ap:SF→SF→SF
 |[],r=>r
 |e::q,r=>e::ap q r
def nf(l:SF)(dr nk:List Nat)(nv:List Value):SF:=ap (fz nk nv) (dl nk (dl dr l))
def ak:List Nat→List Nat→List Nat
 |[],r=>r
 |e::q,r=>e::ak q r
def kl(l:SF)(dr nk:List Nat):List Nat:=ak nk (ky (dl nk (dl dr l)))
section
variable {D:List Deferred} {n:Nat} {M:Av} {X:List Nat} {w0:World} {l:SF} {L:List a8} {N R:dV} {ES:List (Nat×dV)} {P:Program} {Q:Exit→Act→World→Prop} {all:List Oper} {id:Nat}
theorem D4{l':SF}{y:Code}(ks:List Nat)(q:List (Pk (SH M X w0 L)))(h:T D n M X w0 l' L λa w=>y.wp P (Qs N ES R) a w)
  (he:ja P n all (fZ q) l ks=some (l',gb q)):T D n M X w0 l L λa w=>(Code.seq (.region id all.toArray false) y).wp P (Qs N ES R) a w:=
 λ_ _ H hS=>Fa (fZ q) ks _ (gb q) H he (xh hS q) λ_ _ H' hb=>h _ _ H' (hS.below hb)
theorem yw{l':SF}(ks:List Nat)(q:List (Pk (SH M X w0 L)))(h:T D n M X w0 l' L N)
  (he:ja P n all (fZ q) l ks=some (l',gb q)):T D n M X w0 l L λa w=>(Code.region id all.toArray false).wp P (Qs N ES R) a w:=
 λ_ _ H hS=>QO (fZ q) ks _ (gb q) H he (xh hS q) λ_ _ H' hb=>h _ _ H' (hS.below hb)
theorem Zf{l':SF}{i:Nat}(j:Nat)(ks:List Nat)(q:List (Pk (SH M X w0 L)))(h:T D n M X w0 l' L λa w=>wpList P all.toArray Q (all.drop j) a w)
  (he:Fc P n all i j (fZ q) l ks=some (l',gb q))(dL:Nat.ble i j=true:=by rfl):T D n M X w0 l L λa w=>wpList P all.toArray Q (all.drop i) a w:=
 λ_ _ H hS=>QQ i j (fZ q) ks _ (gb q) H dL he (xh hS q) λ_ _ H' hb=>h _ _ H' (hS.below hb)
theorem uR{y:Code}(dr nk:List Nat)(nv:List Value)(q:List (Pk (SH M X w0 L)))(h:T D n M X w0 (nf l dr nk nv) L λa w=>y.wp P (Qs N ES R) a w)
  (he:ja P n all (fZ q) l (kl l dr nk)=some (nf l dr nk nv,gb q):=by kernel_rfl):T D n M X w0 l L λa w=>(Code.seq (.region id all.toArray false) y).wp P (Qs N ES R) a w:=D4 _ q h he
theorem uW(dr nk:List Nat)(nv:List Value)(q:List (Pk (SH M X w0 L)))(h:T D n M X w0 (nf l dr nk nv) L N)
  (he:ja P n all (fZ q) l (kl l dr nk)=some (nf l dr nk nv,gb q):=by kernel_rfl):T D n M X w0 l L λa w=>(Code.region id all.toArray false).wp P (Qs N ES R) a w:=yw _ q h he
theorem uB{i:Nat}(j:Nat)(dr nk:List Nat)(nv:List Value)(q:List (Pk (SH M X w0 L)))(h:T D n M X w0 (nf l dr nk nv) L λa w=>wpList P all.toArray Q (all.drop j) a w)
  (he:Fc P n all i j (fZ q) l (kl l dr nk)=some (nf l dr nk nv,gb q):=by kernel_rfl)(dL:Nat.ble i j=true:=by rfl):T D n M X w0 l L λa w=>wpList P all.toArray Q (all.drop i) a w:=Zf j _ q h he dL
theorem uA{y:Code}(k:Nat)(v:Value)(q:List (Pk (SH M X w0 L)))(h:T D n M X w0 (nf l [] [k] [v]) L λa w=>y.wp P (Qs N ES R) a w)
  (he:ja P n all (fZ q) l (kl l [] [k])=some (nf l [] [k] [v],gb q):=by kernel_rfl):T D n M X w0 l L λa w=>(Code.seq (.region id all.toArray false) y).wp P (Qs N ES R) a w:=D4 _ q h he
theorem uV(k:Nat)(v:Value)(q:List (Pk (SH M X w0 L)))(h:T D n M X w0 (nf l [] [k] [v]) L N)
  (he:ja P n all (fZ q) l (kl l [] [k])=some (nf l [] [k] [v],gb q):=by kernel_rfl):T D n M X w0 l L λa w=>(Code.region id all.toArray false).wp P (Qs N ES R) a w:=yw _ q h he
theorem uJ{α:Type}{k:Nat}{x y:Code}{t:Bool}{p s r:α}(dr:List Nat)(q:List (Pk (SH M X w0 L)))(hm:cond t p s=r)(h1:p=r→T D n M X w0 (dl dr l) L λa w=>x.wp P (Qs N ES R) a w)(h2:s=r→T D n M X w0 (dl dr l) L λa w=>y.wp P (Qs N ES R) a w)
  (he:ja P n all (fZ q) l (k::ky (dl dr l))=some ((k,[],.bool t)::dl dr l,gb q):=by kernel_rfl):T D n M X w0 l L λa w=>(Code.seq (.region id all.toArray false) (.cond (.tmp k) x y)).wp P (Qs N ES R) a w:=
 D4 _ q (D0 (l:=(k,[],.bool t)::dl dr l) hm (λh a w H hS=>h1 h a w (H.mono λ_ he=>List.mem_cons_of_mem _ he) hS) (λh a w H hS=>h2 h a w (H.mono λ_ he=>List.mem_cons_of_mem _ he) hS) (by simp[ev,fI,sX])) he
theorem rT{α:Type}{k:Nat}{x y:Code}{t:Bool}{s:Option α}{r:α}(dr:List Nat)(q:List (Pk (SH M X w0 L)))(hm:cond t none s=some r)(h2:s=some r→T D n M X w0 (dl dr l) L λa w=>y.wp P (Qs N ES R) a w)
  (he:ja P n all (fZ q) l (k::ky (dl dr l))=some ((k,[],.bool t)::dl dr l,gb q):=by kernel_rfl):T D n M X w0 l L λa w=>(Code.seq (.region id all.toArray false) (.cond (.tmp k) x y)).wp P (Qs N ES R) a w:=uJ dr q hm (λh=>cM h) h2 he
theorem uC{α:Type}{c:Operand}{x y:Code}{t:Bool}{p s r:α}(hm:cond t p s=r)(h1:p=r→T D n M X w0 l L λa w=>x.wp P (Qs N ES R) a w)(h2:s=r→T D n M X w0 l L λa w=>y.wp P (Qs N ES R) a w)(hc:ev l [] c=some (.bool t):=by kernel_rfl):
  T D n M X w0 l L λa w=>(Code.cond c x y).wp P (Qs N ES R) a w:=D0 hm h1 h2 hc
theorem uO{y:Code}(q:List (Pk (SH M X w0 L)))(h:T D n M X w0 l L λa w=>y.wp P (Qs N ES R) a w)
  (he:ja P n all (fZ q) l (ky l)=some (l,gb q):=by kernel_rfl):T D n M X w0 l L λa w=>(Code.seq (.region id all.toArray false) y).wp P (Qs N ES R) a w:=D4 _ q h he
theorem uP{i:Nat}(j:Nat)(q:List (Pk (SH M X w0 L)))(h:T D n M X w0 l L λa w=>wpList P all.toArray Q (all.drop j) a w)
  (he:Fc P n all i j (fZ q) l (ky l)=some (l,gb q):=by kernel_rfl)(dL:Nat.ble i j=true:=by rfl):T D n M X w0 l L λa w=>wpList P all.toArray Q (all.drop i) a w:=Zf j _ q h he dL
theorem uI{α:Type}{k:Nat}{x y:Code}{t:Bool}{p s r:α}(q:List (Pk (SH M X w0 L)))(hm:cond t p s=r)(h1:p=r→T D n M X w0 l L λa w=>x.wp P (Qs N ES R) a w)(h2:s=r→T D n M X w0 l L λa w=>y.wp P (Qs N ES R) a w)
  (he:ja P n all (fZ q) l (k::ky l)=some ((k,[],.bool t)::l,gb q):=by kernel_rfl):T D n M X w0 l L λa w=>(Code.seq (.region id all.toArray false) (.cond (.tmp k) x y)).wp P (Qs N ES R) a w:=
 D4 _ q (D0 (l:=(k,[],.bool t)::l) hm (λh a w H hS=>h1 h a w (H.mono λ_ he=>List.mem_cons_of_mem _ he) hS) (λh a w H hS=>h2 h a w (H.mono λ_ he=>List.mem_cons_of_mem _ he) hS) (by simp[ev,fI,sX])) he
theorem RC{α:Type}{k:Nat}{x y:Code}{t:Bool}{p:Option α}{r:α}(q:List (Pk (SH M X w0 L)))(hm:cond t p none=some r)(h1:p=some r→T D n M X w0 l L λa w=>x.wp P (Qs N ES R) a w)
  (he:ja P n all (fZ q) l (k::ky l)=some ((k,[],.bool t)::l,gb q):=by kernel_rfl):T D n M X w0 l L λa w=>(Code.seq (.region id all.toArray false) (.cond (.tmp k) x y)).wp P (Qs N ES R) a w:=uI q hm h1 (λh=>cM h) he
theorem gf{α:Type}{k:Nat}{x y:Code}{t:Bool}{s:Option α}{r:α}(q:List (Pk (SH M X w0 L)))(hm:cond t none s=some r)(h2:s=some r→T D n M X w0 l L λa w=>y.wp P (Qs N ES R) a w)
  (he:ja P n all (fZ q) l (k::ky l)=some ((k,[],.bool t)::l,gb q):=by kernel_rfl):T D n M X w0 l L λa w=>(Code.seq (.region id all.toArray false) (.cond (.tmp k) x y)).wp P (Qs N ES R) a w:=uI q hm (λh=>cM h) h2 he
theorem uN{i:Nat}{o:Oper}{E:List a8}(kt rt:List Nat)
  (hs:∀a w,aw D n l a→S0 (dO M (dS L rt)) (dS L kt) w→bh P o a w λ_ w'=>SH (dO M (dS L rt)) (ay (dS L kt)) w E w')
  (h:T D n M X w0 l (E++dS L rt) λa w=>wpList P all.toArray Q (all.drop (i+1)) a w)
  (ho:all[i]?=some o:=by rfl)(hg:o.guard=none:=by rfl)(qG:o.dst=none:=by rfl)(hk:aQ l (ky l)=some l:=by kernel_rfl)
  (h1:jN L kt=true:=by rfl)(h2:rO L rt kt=true:=by rfl)(h3:jN L rt=true:=by rfl):T D n M X w0 l L λa w=>wpList P all.toArray Q (all.drop i) a w:=
 λ_ w H hS=>ud (ky l) _ H ho hg qG (hs _ w H (hS.hand kt rt h1 h2)) hk λ_ _ H' ⟨_,hq⟩=>h _ _ H' (hS.join kt rt h3 h2 hq)
theorem uM{γ:Type}{i d:Nat}{o:Oper}{F:γ→Value}{E:γ→List a8}(kt rt dr:List Nat)
  (hs:∀a w,aw D n l a→S0 (dO M (dS L rt)) (dS L kt) w→bh P o a w λv w'=>∃g,v=F g∧SH (dO M (dS L rt)) (ay (dS L kt)) w (E g) w')
  (h:∀g,T D n M X w0 ((d,[],F g)::dl (d::dr) l) (E g++dS L rt) λa w=>wpList P all.toArray Q (all.drop (i+1)) a w)
  (ho:all[i]?=some o:=by rfl)(hg:o.guard=none:=by rfl)(qG:o.dst=some d:=by rfl)(hd:Nat.blt d n=true:=by rfl)(hk:∀v,aQ (nG l d [] v) (d::ky (dl (d::dr) l))=some ((d,[],v)::dl (d::dr) l):=by intro v;kernel_rfl)
  (h1:jN L kt=true:=by rfl)(h2:rO L rt kt=true:=by rfl)(h3:jN L rt=true:=by rfl):T D n M X w0 l L λa w=>wpList P all.toArray Q (all.drop i) a w:=
 λ_ w H hS=>fY (d::ky (dl (d::dr) l)) _ H ho hg qG hd (hs _ w H (hS.hand kt rt h1 h2)) hk λ_ _ _ H' ⟨g,e,hq⟩=>h g _ _ (e▸H') (hS.join kt rt h3 h2 hq)
theorem uL{i:Nat}{o:Oper}{E:List a8}(kt rt dr:List Nat)
  (hs:∀a w,aw D n l a→S0 (dO M (dS L rt)) (dS L kt) w→bh P o a w λ_ w'=>SH (dO M (dS L rt)) (ay (dS L kt)) w E w')
  (h:T D n M X w0 (dl dr l) (E++dS L rt) λa w=>wpList P all.toArray Q (all.drop (i+1)) a w)
  (ho:all[i]?=some o:=by rfl)(hg:o.guard=none:=by rfl)(qG:o.dst=none:=by rfl)(hk:aQ l (ky (dl dr l))=some (dl dr l):=by kernel_rfl)
  (h1:jN L kt=true:=by rfl)(h2:rO L rt kt=true:=by rfl)(h3:jN L rt=true:=by rfl):T D n M X w0 l L λa w=>wpList P all.toArray Q (all.drop i) a w:=
 λ_ w H hS=>ud (ky (dl dr l)) _ H ho hg qG (hs _ w H (hS.hand kt rt h1 h2)) hk λ_ _ H' ⟨_,hq⟩=>h _ _ H' (hS.join kt rt h3 h2 hq)
theorem uQ{γ:Type}{i d:Nat}{x:Operand}{ar:Array Operand}{ta:Array TypeId}{ty:TypeId}{pos:String}{after:Array Edge}{f:FuncId}{av first IM qC:List Value}{F:γ→Value}{E:γ→List a8}{L':List a8}(kt rt dr:List Nat)(hc:MJ P f ⟨av⟩ L' F E)
  (h:∀g,T D n M X w0 ((d,[],F g)::dl (d::dr) l) (E g++dS L rt) λa w=>wpList P all.toArray Q (all.drop (i+1)) a w)
  (ho:all[i]?=some ⟨some d,.call ⟨.value x,ar,ta⟩,ty,pos,after,none⟩:=by rfl)(hx:callee l [] x=some (f,first,qC):=by rfl)(ha:o8 l [] ar.toList=some IM:=by rfl)(hv:first++IM++qC=av:=by rfl)(hL:dS L kt=L':=by rfl)
  (hd:Nat.blt d n=true:=by rfl)(hk:∀v,aQ (nG l d [] v) (d::ky (dl (d::dr) l))=some ((d,[],v)::dl (d::dr) l):=by intro v;kernel_rfl)
  (h1:jN L kt=true:=by rfl)(h2:rO L rt kt=true:=by rfl)(h3:jN L rt=true:=by rfl):T D n M X w0 l L λa w=>wpList P all.toArray Q (all.drop i) a w:=by
 subst hv hL;exact uM kt rt dr (λ_ _ H hS=>dv H hx ha (hc _ _ hS)) h ho rfl rfl hd hk h1 h2 h3
theorem te{l':SF}{L':List a8}(hl:aQ l (ky l')=some l':=by kernel_rfl)(hL:L=L':=by rfl):T D n M X w0 l L (Cu D n M X w0 l' L'):=t_e _ hl hL
abbrev Cs{ρ γ:Type}(z:Sum ρ γ)(D:List Deferred)(n:Nat)(M:Av)(X:List Nat)(w0:World)(l:γ→SF)(L:γ→List a8):dV:=λa w=>∃s,z=Sum.inr s∧aw D n (l s) a∧SH M X w0 (L s) w
theorem uS{ρ γ:Type}{z:Sum ρ γ}{x y:Code}(dr nk:List Nat)(nv:γ→List Value)(L':γ→List a8)(h:T D n M X w0 l L λa w=>x.wp P (Qs (Cs z D n M X w0 (λs=>nf l dr nk (nv s)) L') ES R) a w)(h2:∀s,z=Sum.inr s→T D n M X w0 (nf l dr nk (nv s)) (L' s) λa w=>y.wp P (Qs N ES R) a w):
  T D n M X w0 l L λa w=>(Code.seq x y).wp P (Qs N ES R) a w:=λ_ _ H hS=>dh _ (h _ _ H hS) λa w ⟨s,hz,h⟩=>h2 s hz a w h.1 h.2
theorem ts{ρ γ:Type}{s:γ}{l':γ→SF}{L':γ→List a8}(hl:aQ l (ky (l' s))=some (l' s):=by kernel_rfl)(hL:L=L' s:=by rfl):T D n M X w0 l L (Cs (Sum.inr s:Sum ρ γ) D n M X w0 l' L'):=λ_ _ H hS=>⟨s,rfl,aw.aQ H hl,by rw[←hL];exact hS⟩
theorem Zg{ρ γ:Type}{s:γ}{l':γ→SF}{L':γ→List a8}{a:Act}{w:World}(H:aw D n l a)(hS:SH M X w0 L w)(hl:aQ l (ky (l' s))=some (l' s):=by kernel_rfl)(hL:L=L' s:=by rfl):Cs (Sum.inr s:Sum ρ γ) D n M X w0 l' L' a w:=ts hl hL a w H hS
theorem uK{x y:Code}(dr nk:List Nat)(nv:List Value)(L':List a8)(h:T D n M X w0 l L λa w=>x.wp P (Qs (Cu D n M X w0 (nf l dr nk nv) L') ES R) a w)(h2:T D n M X w0 (nf l dr nk nv) L' λa w=>y.wp P (Qs N ES R) a w):
  T D n M X w0 l L λa w=>(Code.seq x y).wp P (Qs N ES R) a w:=λ_ _ H hS=>dh _ (h _ _ H hS) λa w h=>h2 a w h.1 h.2
theorem gz{γ:Type}{x y:Code}(dr nk:List Nat)(nv:γ→List Value)(L':γ→List a8)(h:T D n M X w0 l L λa w=>x.wp P (Qs (Cg D n M X w0 (λg=>nf l dr nk (nv g)) L') ES R) a w)(h2:∀g,T D n M X w0 (nf l dr nk (nv g)) (L' g) λa w=>y.wp P (Qs N ES R) a w):
  T D n M X w0 l L λa w=>(Code.seq x y).wp P (Qs N ES R) a w:=λ_ _ H hS=>dh _ (h _ _ H hS) λa w ⟨g,h⟩=>h2 g a w h.1 h.2
theorem tg{γ:Type}{l':γ→SF}{L':γ→List a8}(g:γ)(hl:aQ l (ky (l' g))=some (l' g):=by kernel_rfl)(hL:L=L' g:=by rfl):T D n M X w0 l L (Cg D n M X w0 l' L'):=a5g g _ hl hL
end
section
variable {D:List Deferred} {n:Nat} {M:Av} {X:List Nat} {w0:World} {l:SF} {L:List a8} {N R:dV} {ES:List (Nat×dV)} {P:Program} {c:Code} {ρ α β δ ε γ:Type} {all:List Oper} {id:Nat}
abbrev RD(F:Nat→α→Option ρ)(r:ρ)(k:Nat)(D:List Deferred)(n:Nat)(M:Av)(X:List Nat)(w0:World)(l:α→SF)(L:α→List a8):dV:=λa w=>∃m,m<k∧∃x,F m x=some r∧aw D n (l x) a∧SH M X w0 (L x) w
theorem ep{F:Nat→α→Option ρ}{r:ρ}{k:Nat}{x:α}(dr nk:List Nat)(nv:α→List Value)(L':α→List a8)(hm:F k x=some r)(h:∀k x,F (k+1) x=some r→T D n M X w0 (nf l dr nk (nv x)) (L' x) λa w=>c.wp P (Qs (RD F r (k+1) D n M X w0 (λx=>nf l dr nk (nv x)) L') ES R) a w)
  (hz:∀x,F 0 x=none:=by intros;rfl)(hl:aQ l (kl l dr nk)=some (nf l dr nk (nv x)):=by kernel_rfl)(hL:L=L' x:=by rfl):T D n M X w0 l L λa w=>(Code.loop c).wp P (Qs N ES R) a w:=
 λa w H hS=>iP (λk a w=>∃x,F k x=some r∧aw D n (nf l dr nk (nv x)) a∧SH M X w0 (L' x) w) ⟨k,x,hm,aw.aQ H hl,by rw[←hL];exact hS⟩ λm a w=>by
  rintro⟨x,hm,H,hS⟩;cases m with
  |zero=>rw[hz]at hm;cases hm
  |succ k=>exact h k x hm a w H hS
theorem Zh{F:Nat→α→Option ρ}{r:ρ}{k:Nat}{x:α}{lf:α→SF}{Lf:α→List a8}(hm:F k x=some r)(hl:aQ l (ky (lf x))=some (lf x):=by kernel_rfl)(hL:L=Lf x:=by rfl):T D n M X w0 l L (RD F r (k+1) D n M X w0 lf Lf):=
 λ_ _ H hS=>⟨k,Nat.lt_succ_self _,x,hm,aw.aQ H hl,by rw[←hL];exact hS⟩
theorem fK{F:Nat→α→Option ρ}{r:ρ}{k:Nat}{x:α}{lf:α→SF}{Lf:α→List a8}(q:List (Pk (SH M X w0 L)))(hm:F k x=some r)(he:ja P n all (fZ q) l (ky (lf x))=some (lf x,gb q):=by kernel_rfl)(hL:L=Lf x:=by rfl):T D n M X w0 l L λa w=>(Code.region id all.toArray false).wp P (Qs (RD F r (k+1) D n M X w0 lf Lf) ES R) a w:=
 yw _ q (λ_ _ H hS=>⟨k,Nat.lt_succ_self _,x,hm,H,by rw[←hL];exact hS⟩) he
abbrev RE(F:Nat→α→β→Option ρ)(r:ρ)(k:Nat)(D:List Deferred)(n:Nat)(M:Av)(X:List Nat)(w0:World)(l:α→β→SF)(L:α→β→List a8):dV:=λa w=>∃m,m<k∧∃x,∃y,F m x y=some r∧aw D n (l x y) a∧SH M X w0 (L x y) w
theorem iV{F:Nat→α→β→Option ρ}{r:ρ}{k:Nat}{x:α}{y:β}(dr nk:List Nat)(nv:α→β→List Value)(L':α→β→List a8)(hm:F k x y=some r)(h:∀k x y,F (k+1) x y=some r→T D n M X w0 (nf l dr nk (nv x y)) (L' x y) λa w=>c.wp P (Qs (RE F r (k+1) D n M X w0 (λx y=>nf l dr nk (nv x y)) L') ES R) a w)
  (hz:∀x y,F 0 x y=none:=by intros;rfl)(hl:aQ l (kl l dr nk)=some (nf l dr nk (nv x y)):=by kernel_rfl)(hL:L=L' x y:=by rfl):T D n M X w0 l L λa w=>(Code.loop c).wp P (Qs N ES R) a w:=
 λa w H hS=>iP (λk a w=>∃x,∃y,F k x y=some r∧aw D n (nf l dr nk (nv x y)) a∧SH M X w0 (L' x y) w) ⟨k,x,y,hm,aw.aQ H hl,by rw[←hL];exact hS⟩ λm a w=>by
  rintro⟨x,y,hm,H,hS⟩;cases m with
  |zero=>rw[hz]at hm;cases hm
  |succ k=>exact h k x y hm a w H hS
theorem ug2{F:Nat→α→β→Option ρ}{r:ρ}{k:Nat}{x:α}{y:β}{lf:α→β→SF}{Lf:α→β→List a8}(hm:F k x y=some r)(hl:aQ l (ky (lf x y))=some (lf x y):=by kernel_rfl)(hL:L=Lf x y:=by rfl):T D n M X w0 l L (RE F r (k+1) D n M X w0 lf Lf):=
 λ_ _ H hS=>⟨k,Nat.lt_succ_self _,x,y,hm,aw.aQ H hl,by rw[←hL];exact hS⟩
theorem jx{F:Nat→α→β→Option ρ}{r:ρ}{k:Nat}{x:α}{y:β}{lf:α→β→SF}{Lf:α→β→List a8}(q:List (Pk (SH M X w0 L)))(hm:F k x y=some r)(he:ja P n all (fZ q) l (ky (lf x y))=some (lf x y,gb q):=by kernel_rfl)(hL:L=Lf x y:=by rfl):T D n M X w0 l L λa w=>(Code.region id all.toArray false).wp P (Qs (RE F r (k+1) D n M X w0 lf Lf) ES R) a w:=
 yw _ q (λ_ _ H hS=>⟨k,Nat.lt_succ_self _,x,y,hm,H,by rw[←hL];exact hS⟩) he
abbrev RF(F:Nat→α→β→Option ρ)(r:ρ)(k:Nat)(D:List Deferred)(n:Nat)(M:Av)(X:List Nat)(w0:World)(l:α→β→γ→SF)(L:α→β→γ→List a8):dV:=λa w=>∃m,m<k∧∃x,∃y,∃g,F m x y=some r∧aw D n (l x y g) a∧SH M X w0 (L x y g) w
theorem mI{F:Nat→α→β→Option ρ}{r:ρ}{k:Nat}{x:α}{y:β}(dr nk:List Nat)(nv:α→β→γ→List Value)(L':α→β→γ→List a8)(g:γ)(hm:F k x y=some r)(h:∀k x y g,F (k+1) x y=some r→T D n M X w0 (nf l dr nk (nv x y g)) (L' x y g) λa w=>c.wp P (Qs (RF F r (k+1) D n M X w0 (λx y g=>nf l dr nk (nv x y g)) L') ES R) a w)
  (hz:∀x y,F 0 x y=none:=by intros;rfl)(hl:aQ l (kl l dr nk)=some (nf l dr nk (nv x y g)):=by kernel_rfl)(hL:L=L' x y g:=by rfl):T D n M X w0 l L λa w=>(Code.loop c).wp P (Qs N ES R) a w:=
 λa w H hS=>iP (λk a w=>∃x,∃y,∃g,F k x y=some r∧aw D n (nf l dr nk (nv x y g)) a∧SH M X w0 (L' x y g) w) ⟨k,x,y,g,hm,aw.aQ H hl,by rw[←hL];exact hS⟩ λm a w=>by
  rintro⟨x,y,g,hm,H,hS⟩;cases m with
  |zero=>rw[hz]at hm;cases hm
  |succ k=>exact h k x y g hm a w H hS
theorem uh{F:Nat→α→β→Option ρ}{r:ρ}{k:Nat}{x:α}{y:β}{lf:α→β→γ→SF}{Lf:α→β→γ→List a8}(g:γ)(hm:F k x y=some r)(hl:aQ l (ky (lf x y g))=some (lf x y g):=by kernel_rfl)(hL:L=Lf x y g:=by rfl):T D n M X w0 l L (RF F r (k+1) D n M X w0 lf Lf):=
 λ_ _ H hS=>⟨k,Nat.lt_succ_self _,x,y,g,hm,aw.aQ H hl,by rw[←hL];exact hS⟩
theorem xi{F:Nat→α→β→Option ρ}{r:ρ}{k:Nat}{x:α}{y:β}{lf:α→β→γ→SF}{Lf:α→β→γ→List a8}(q:List (Pk (SH M X w0 L)))(g:γ)(hm:F k x y=some r)(he:ja P n all (fZ q) l (ky (lf x y g))=some (lf x y g,gb q):=by kernel_rfl)(hL:L=Lf x y g:=by rfl):T D n M X w0 l L λa w=>(Code.region id all.toArray false).wp P (Qs (RF F r (k+1) D n M X w0 lf Lf) ES R) a w:=
 yw _ q (λ_ _ H hS=>⟨k,Nat.lt_succ_self _,x,y,g,hm,H,by rw[←hL];exact hS⟩) he
abbrev RG(F:Nat→α→β→δ→Option ρ)(r:ρ)(k:Nat)(D:List Deferred)(n:Nat)(M:Av)(X:List Nat)(w0:World)(l:α→β→δ→SF)(L:α→β→δ→List a8):dV:=λa w=>∃m,m<k∧∃x,∃y,∃u,F m x y u=some r∧aw D n (l x y u) a∧SH M X w0 (L x y u) w
theorem RH{F:Nat→α→β→δ→Option ρ}{r:ρ}{k:Nat}{x:α}{y:β}{u:δ}(dr nk:List Nat)(nv:α→β→δ→List Value)(L':α→β→δ→List a8)(hm:F k x y u=some r)(h:∀k x y u,F (k+1) x y u=some r→T D n M X w0 (nf l dr nk (nv x y u)) (L' x y u) λa w=>c.wp P (Qs (RG F r (k+1) D n M X w0 (λx y u=>nf l dr nk (nv x y u)) L') ES R) a w)
  (hz:∀x y u,F 0 x y u=none:=by intros;rfl)(hl:aQ l (kl l dr nk)=some (nf l dr nk (nv x y u)):=by kernel_rfl)(hL:L=L' x y u:=by rfl):T D n M X w0 l L λa w=>(Code.loop c).wp P (Qs N ES R) a w:=
 λa w H hS=>iP (λk a w=>∃x,∃y,∃u,F k x y u=some r∧aw D n (nf l dr nk (nv x y u)) a∧SH M X w0 (L' x y u) w) ⟨k,x,y,u,hm,aw.aQ H hl,by rw[←hL];exact hS⟩ λm a w=>by
  rintro⟨x,y,u,hm,H,hS⟩;cases m with
  |zero=>rw[hz]at hm;cases hm
  |succ k=>exact h k x y u hm a w H hS
theorem ug3{F:Nat→α→β→δ→Option ρ}{r:ρ}{k:Nat}{x:α}{y:β}{u:δ}{lf:α→β→δ→SF}{Lf:α→β→δ→List a8}(hm:F k x y u=some r)(hl:aQ l (ky (lf x y u))=some (lf x y u):=by kernel_rfl)(hL:L=Lf x y u:=by rfl):T D n M X w0 l L (RG F r (k+1) D n M X w0 lf Lf):=
 λ_ _ H hS=>⟨k,Nat.lt_succ_self _,x,y,u,hm,aw.aQ H hl,by rw[←hL];exact hS⟩
theorem Zi{F:Nat→α→β→δ→Option ρ}{r:ρ}{k:Nat}{x:α}{y:β}{u:δ}{lf:α→β→δ→SF}{Lf:α→β→δ→List a8}(q:List (Pk (SH M X w0 L)))(hm:F k x y u=some r)(he:ja P n all (fZ q) l (ky (lf x y u))=some (lf x y u,gb q):=by kernel_rfl)(hL:L=Lf x y u:=by rfl):T D n M X w0 l L λa w=>(Code.region id all.toArray false).wp P (Qs (RG F r (k+1) D n M X w0 lf Lf) ES R) a w:=
 yw _ q (λ_ _ H hS=>⟨k,Nat.lt_succ_self _,x,y,u,hm,H,by rw[←hL];exact hS⟩) he
abbrev RI(F:Nat→α→β→δ→Option ρ)(r:ρ)(k:Nat)(D:List Deferred)(n:Nat)(M:Av)(X:List Nat)(w0:World)(l:α→β→δ→γ→SF)(L:α→β→δ→γ→List a8):dV:=λa w=>∃m,m<k∧∃x,∃y,∃u,∃g,F m x y u=some r∧aw D n (l x y u g) a∧SH M X w0 (L x y u g) w
theorem MK{F:Nat→α→β→δ→Option ρ}{r:ρ}{k:Nat}{x:α}{y:β}{u:δ}(dr nk:List Nat)(nv:α→β→δ→γ→List Value)(L':α→β→δ→γ→List a8)(g:γ)(hm:F k x y u=some r)(h:∀k x y u g,F (k+1) x y u=some r→T D n M X w0 (nf l dr nk (nv x y u g)) (L' x y u g) λa w=>c.wp P (Qs (RI F r (k+1) D n M X w0 (λx y u g=>nf l dr nk (nv x y u g)) L') ES R) a w)
  (hz:∀x y u,F 0 x y u=none:=by intros;rfl)(hl:aQ l (kl l dr nk)=some (nf l dr nk (nv x y u g)):=by kernel_rfl)(hL:L=L' x y u g:=by rfl):T D n M X w0 l L λa w=>(Code.loop c).wp P (Qs N ES R) a w:=
 λa w H hS=>iP (λk a w=>∃x,∃y,∃u,∃g,F k x y u=some r∧aw D n (nf l dr nk (nv x y u g)) a∧SH M X w0 (L' x y u g) w) ⟨k,x,y,u,g,hm,aw.aQ H hl,by rw[←hL];exact hS⟩ λm a w=>by
  rintro⟨x,y,u,g,hm,H,hS⟩;cases m with
  |zero=>rw[hz]at hm;cases hm
  |succ k=>exact h k x y u g hm a w H hS
theorem Zj{F:Nat→α→β→δ→Option ρ}{r:ρ}{k:Nat}{x:α}{y:β}{u:δ}{lf:α→β→δ→γ→SF}{Lf:α→β→δ→γ→List a8}(g:γ)(hm:F k x y u=some r)(hl:aQ l (ky (lf x y u g))=some (lf x y u g):=by kernel_rfl)(hL:L=Lf x y u g:=by rfl):T D n M X w0 l L (RI F r (k+1) D n M X w0 lf Lf):=
 λ_ _ H hS=>⟨k,Nat.lt_succ_self _,x,y,u,g,hm,aw.aQ H hl,by rw[←hL];exact hS⟩
theorem Zk{F:Nat→α→β→δ→Option ρ}{r:ρ}{k:Nat}{x:α}{y:β}{u:δ}{lf:α→β→δ→γ→SF}{Lf:α→β→δ→γ→List a8}(q:List (Pk (SH M X w0 L)))(g:γ)(hm:F k x y u=some r)(he:ja P n all (fZ q) l (ky (lf x y u g))=some (lf x y u g,gb q):=by kernel_rfl)(hL:L=Lf x y u g:=by rfl):T D n M X w0 l L λa w=>(Code.region id all.toArray false).wp P (Qs (RI F r (k+1) D n M X w0 lf Lf) ES R) a w:=
 yw _ q (λ_ _ H hS=>⟨k,Nat.lt_succ_self _,x,y,u,g,hm,H,by rw[←hL];exact hS⟩) he
abbrev RJ(F:Nat→α→β→δ→ε→Option ρ)(r:ρ)(k:Nat)(D:List Deferred)(n:Nat)(M:Av)(X:List Nat)(w0:World)(l:α→β→δ→ε→SF)(L:α→β→δ→ε→List a8):dV:=λa w=>∃m,m<k∧∃x,∃y,∃u,∃v,F m x y u v=some r∧aw D n (l x y u v) a∧SH M X w0 (L x y u v) w
theorem ML{F:Nat→α→β→δ→ε→Option ρ}{r:ρ}{k:Nat}{x:α}{y:β}{u:δ}{v:ε}(dr nk:List Nat)(nv:α→β→δ→ε→List Value)(L':α→β→δ→ε→List a8)(hm:F k x y u v=some r)(h:∀k x y u v,F (k+1) x y u v=some r→T D n M X w0 (nf l dr nk (nv x y u v)) (L' x y u v) λa w=>c.wp P (Qs (RJ F r (k+1) D n M X w0 (λx y u v=>nf l dr nk (nv x y u v)) L') ES R) a w)
  (hz:∀x y u v,F 0 x y u v=none:=by intros;rfl)(hl:aQ l (kl l dr nk)=some (nf l dr nk (nv x y u v)):=by kernel_rfl)(hL:L=L' x y u v:=by rfl):T D n M X w0 l L λa w=>(Code.loop c).wp P (Qs N ES R) a w:=
 λa w H hS=>iP (λk a w=>∃x,∃y,∃u,∃v,F k x y u v=some r∧aw D n (nf l dr nk (nv x y u v)) a∧SH M X w0 (L' x y u v) w) ⟨k,x,y,u,v,hm,aw.aQ H hl,by rw[←hL];exact hS⟩ λm a w=>by
  rintro⟨x,y,u,v,hm,H,hS⟩;cases m with
  |zero=>rw[hz]at hm;cases hm
  |succ k=>exact h k x y u v hm a w H hS
theorem ug4{F:Nat→α→β→δ→ε→Option ρ}{r:ρ}{k:Nat}{x:α}{y:β}{u:δ}{v:ε}{lf:α→β→δ→ε→SF}{Lf:α→β→δ→ε→List a8}(hm:F k x y u v=some r)(hl:aQ l (ky (lf x y u v))=some (lf x y u v):=by kernel_rfl)(hL:L=Lf x y u v:=by rfl):T D n M X w0 l L (RJ F r (k+1) D n M X w0 lf Lf):=
 λ_ _ H hS=>⟨k,Nat.lt_succ_self _,x,y,u,v,hm,aw.aQ H hl,by rw[←hL];exact hS⟩
theorem RL{F:Nat→α→β→δ→ε→Option ρ}{r:ρ}{k:Nat}{x:α}{y:β}{u:δ}{v:ε}{lf:α→β→δ→ε→SF}{Lf:α→β→δ→ε→List a8}(q:List (Pk (SH M X w0 L)))(hm:F k x y u v=some r)(he:ja P n all (fZ q) l (ky (lf x y u v))=some (lf x y u v,gb q):=by kernel_rfl)(hL:L=Lf x y u v:=by rfl):T D n M X w0 l L λa w=>(Code.region id all.toArray false).wp P (Qs (RJ F r (k+1) D n M X w0 lf Lf) ES R) a w:=
 yw _ q (λ_ _ H hS=>⟨k,Nat.lt_succ_self _,x,y,u,v,hm,H,by rw[←hL];exact hS⟩) he
abbrev RM(F:Nat→α→β→δ→ε→Option ρ)(r:ρ)(k:Nat)(D:List Deferred)(n:Nat)(M:Av)(X:List Nat)(w0:World)(l:α→β→δ→ε→γ→SF)(L:α→β→δ→ε→γ→List a8):dV:=λa w=>∃m,m<k∧∃x,∃y,∃u,∃v,∃g,F m x y u v=some r∧aw D n (l x y u v g) a∧SH M X w0 (L x y u v g) w
theorem a5k{F:Nat→α→β→δ→ε→Option ρ}{r:ρ}{k:Nat}{x:α}{y:β}{u:δ}{v:ε}(dr nk:List Nat)(nv:α→β→δ→ε→γ→List Value)(L':α→β→δ→ε→γ→List a8)(g:γ)(hm:F k x y u v=some r)(h:∀k x y u v g,F (k+1) x y u v=some r→T D n M X w0 (nf l dr nk (nv x y u v g)) (L' x y u v g) λa w=>c.wp P (Qs (RM F r (k+1) D n M X w0 (λx y u v g=>nf l dr nk (nv x y u v g)) L') ES R) a w)
  (hz:∀x y u v,F 0 x y u v=none:=by intros;rfl)(hl:aQ l (kl l dr nk)=some (nf l dr nk (nv x y u v g)):=by kernel_rfl)(hL:L=L' x y u v g:=by rfl):T D n M X w0 l L λa w=>(Code.loop c).wp P (Qs N ES R) a w:=
 λa w H hS=>iP (λk a w=>∃x,∃y,∃u,∃v,∃g,F k x y u v=some r∧aw D n (nf l dr nk (nv x y u v g)) a∧SH M X w0 (L' x y u v g) w) ⟨k,x,y,u,v,g,hm,aw.aQ H hl,by rw[←hL];exact hS⟩ λm a w=>by
  rintro⟨x,y,u,v,g,hm,H,hS⟩;cases m with
  |zero=>rw[hz]at hm;cases hm
  |succ k=>exact h k x y u v g hm a w H hS
theorem a5l{F:Nat→α→β→δ→ε→Option ρ}{r:ρ}{k:Nat}{x:α}{y:β}{u:δ}{v:ε}{lf:α→β→δ→ε→γ→SF}{Lf:α→β→δ→ε→γ→List a8}(g:γ)(hm:F k x y u v=some r)(hl:aQ l (ky (lf x y u v g))=some (lf x y u v g):=by kernel_rfl)(hL:L=Lf x y u v g:=by rfl):T D n M X w0 l L (RM F r (k+1) D n M X w0 lf Lf):=
 λ_ _ H hS=>⟨k,Nat.lt_succ_self _,x,y,u,v,g,hm,aw.aQ H hl,by rw[←hL];exact hS⟩
theorem a5m{F:Nat→α→β→δ→ε→Option ρ}{r:ρ}{k:Nat}{x:α}{y:β}{u:δ}{v:ε}{lf:α→β→δ→ε→γ→SF}{Lf:α→β→δ→ε→γ→List a8}(q:List (Pk (SH M X w0 L)))(g:γ)(hm:F k x y u v=some r)(he:ja P n all (fZ q) l (ky (lf x y u v g))=some (lf x y u v g,gb q):=by kernel_rfl)(hL:L=Lf x y u v g:=by rfl):T D n M X w0 l L λa w=>(Code.region id all.toArray false).wp P (Qs (RM F r (k+1) D n M X w0 lf Lf) ES R) a w:=
 yw _ q (λ_ _ H hS=>⟨k,Nat.lt_succ_self _,x,y,u,v,g,hm,H,by rw[←hL];exact hS⟩) he
end
section
variable {n:Nat} {M:Av} {X:List Nat} {w0:World} {l:SF} {L E:List a8} {ES:List (Nat×dV)} {P:Program} {all:List Oper} {id:Nat} {fn:Func} {N:dV}
theorem yx(hr:fn.results=#[]:=by rfl):Rs P fn l L (.tuple ⟨[]⟩):=rs0 hr
theorem bp{t:Nat}{v:Value}(hr:fn.results=#[.tmp t]:=by rfl)(h:fI l t=some ([],v):=by kernel_rfl):Rs P fn l L v:=IP hr h
theorem eW{t s:Nat}{v u:Value}(hr:fn.results=#[.tmp t,.tmp s]:=by rfl)(h:fI l t=some ([],v):=by kernel_rfl)(h2:fI l s=some ([],u):=by kernel_rfl):Rs P fn l L (.tuple ⟨[v,u]⟩):=Ze hr h h2
theorem IQ(k:Nat){t b:Nat}{Y:TypeId}{cs:List Value}{d:TypeDesc}(hu:P.underlying Y=some d)(hr:fn.results=#[.cell t Y]:=by rfl)(hk:L[k]?=some (.lJ b cs):=by rfl)(h:fI l t=some ([],.pointer (some ⟨b,0,none⟩)):=by kernel_rfl)
  (hd:(match d with| .struct _| .array _ _=>true|_=>false)=true:=by rfl)(hz:(P.info? Y).map (·.size)=some cs.length:=by kernel_rfl):Rs P fn l L (.agg ⟨cs⟩):=rsa k hu hr h hk hd hz
theorem lK(k:Nat){t b s:Nat}{u:Value}{Y:TypeId}{cs:List Value}{d:TypeDesc}(hu:P.underlying Y=some d)(hr:fn.results=#[.cell t Y,.tmp s]:=by rfl)(hk:L[k]?=some (.lJ b cs):=by rfl)(h:fI l t=some ([],.pointer (some ⟨b,0,none⟩)):=by kernel_rfl)(h2:fI l s=some ([],u):=by kernel_rfl)
  (hd:(match d with| .struct _| .array _ _=>true|_=>false)=true:=by rfl)(hz:(P.info? Y).map (·.size)=some cs.length:=by kernel_rfl):Rs P fn l L (.tuple ⟨[.agg ⟨cs⟩,u]⟩):=a5i k hu hr h h2 hk hd hz
theorem uZ{t:Nat}{v:Value}(ks:List Nat)(q:List (Pk (SH M X w0 L)))(hr:fn.results=#[.tmp t]:=by rfl)(he:ja P n all (fZ q) l [t]=some ([(t,[],v)],gb q):=by kernel_rfl)(hE:dS L ks=E:=by rfl)(hk:jN L ks=true:=by rfl):
  T [] n M X w0 l L λa w=>(Code.seq (.region id all.toArray false) .ret).wp P (Qs N ES (Rp P fn (Pn v E M X w0))) a w:=D4 _ q (aR (bj ks (IP hr (by simp[fI])) hE hk)) he
theorem uY{t s:Nat}{v u:Value}(ks:List Nat)(q:List (Pk (SH M X w0 L)))(hr:fn.results=#[.tmp t,.tmp s]:=by rfl)(he:ja P n all (fZ q) l [t,s]=some ([(t,[],v),(s,[],u)],gb q):=by kernel_rfl)(qE:Nat.beq t s=false:=by rfl)(hE:dS L ks=E:=by rfl)(hk:jN L ks=true:=by rfl):
  T [] n M X w0 l L λa w=>(Code.seq (.region id all.toArray false) .ret).wp P (Qs N ES (Rp P fn (Pn (.tuple ⟨[v,u]⟩) E M X w0))) a w:=D4 _ q (aR (bj ks (Ze hr (by simp[fI]) (by simp[fI,qE])) hE hk)) he
end
section
variable {P:Program} {D:List Deferred} {n:Nat} {M:Av} {l:SF} {ty:TypeId} {pos:String} {after:Array Edge}
theorem oS{t:TypeId}{x y:Operand}{b off:Nat}{v:Value}{cs:List Value}(CT:List Value)
  (hx:ev l [] x=some (.pointer (some ⟨b,off,none⟩)))(hy:ev l [] y=some v)(hz:(P.info? t).map (·.size)=some v.cells.toList.length:=by kernel_rfl)(h1:pY v.cells.toList=true:=by kernel_rfl)(hl:Nat.ble (off+v.cells.toList.length) cs.length=true:=by kernel_rfl)(hs:jW cs off v.cells.toList=CT:=by kernel_rfl):
  ∀a w,aw D n l a→S0 M [.lJ b cs] w→bh P ⟨none,.store t x y,ty,pos,after,none⟩ a w λ_ w'=>SH M (ay [.lJ b cs]) w [.lJ b CT] w':=λ_ _ H hS=>qe CT H hS hx hy hz h1 hl hs
theorem oA{d:Option Tmp}{E:TypeId}(cs:List Value)(hz:(P.info? E).map (·.zero)=some (some (.agg ⟨cs⟩)):=by kernel_rfl):
  ∀a w,aw D n l a→S0 M [] w→bh P ⟨d,.alloc E,ty,pos,after,none⟩ a w λu w'=>∃b:Nat,u=.pointer (some ⟨b,0,none⟩)∧SH M (ay []) w [.lJ b cs] w':=λ_ _ _ hS=>ua cs (z:=.agg ⟨cs⟩) hS hz rfl
theorem oB{d:Option Tmp}{E:TypeId}{x:Operand}{v:Value}(cs:List Value)(hx:ev l [] x=some v)(hc:v.cells.toList=cs:=by kernel_rfl):
  ∀a w,aw D n l a→S0 M [] w→bh P ⟨d,.box E x,ty,pos,after,none⟩ a w λu w'=>∃b:Nat,u=.pointer (some ⟨b,0,none⟩)∧SH M (ay []) w [.lJ b cs] w':=λ_ _ H hS=>a4D cs H hS hx hc
theorem oL{α:Type}(T:Ty α){d:Nat}{t:TypeId}(E:TypeId){len:Nat}(zv:Value){parts:Array (Nat×Operand)}{L:List a8}(xs:List α)(gs:List (Nat→Gh)){vs:List Value}(iU:∀{w},S0 M L w→bd T (dO M L) w xs gs)(he:o8 l [] (parts.toList.map (·.2))=some vs)
  (hu:P.underlying t=some (.slice E):=by kernel_rfl)(hz:(P.info? E).map (·.size)=some T.z:=by kernel_rfl)(pZ:(P.info? E).map (·.zero)=some (some zv):=by kernel_rfl)(hlen:Nat.ble (len*T.z) 16777216=true:=by kernel_rfl)(nI:Nat.blt 0 (len*T.z)=true:=by kernel_rfl)
  (hf:Instr.fill (λi=>some (i*T.z,T.z)) ((Array.range (len*T.z)).map (zv.cells[· %zv.cells.size]!)) ((parts.toList.map (·.1)).zip vs)=some ⟨((da xs (sL gs) 0).map (fC T)).flatten⟩:=by kernel_rfl)(oe:xs.length=len:=by kernel_rfl):
  ∀a w,aw D n l a→S0 M L w→bh P ⟨some d,.buildSlice t len parts,ty,pos,after,none⟩ a w λv w'=>∃g:Gh,v=.slice g.a len g.c∧SH M (ay L) w [.own E T xs g] w':=λ_ _ H hS=>Ms _ xs gs vs H hS he hu hz pZ hlen nI hf rfl oe (iU hS)
theorem oM{α:Type}(T:Ty α){d:Nat}{t:TypeId}(E:TypeId){len:Nat}(zv:Value){parts:Array (Nat×Operand)}{L:List a8}(xs:List α)(gs:List (Nat→Gh)){vs:List Value}{a:Act}{w:World}(H:aw D n l a)(hS:S0 M L w)(he:o8 l [] (parts.toList.map (·.2))=some vs)(iU:bd T (dO M L) w xs gs)
  (hu:P.underlying t=some (.slice E):=by kernel_rfl)(hz:(P.info? E).map (·.size)=some T.z:=by kernel_rfl)(pZ:(P.info? E).map (·.zero)=some (some zv):=by kernel_rfl)(hlen:Nat.ble (len*T.z) 16777216=true:=by kernel_rfl)(nI:Nat.blt 0 (len*T.z)=true:=by kernel_rfl)
  (hf:Instr.fill (λi=>some (i*T.z,T.z)) ((Array.range (len*T.z)).map (zv.cells[· %zv.cells.size]!)) ((parts.toList.map (·.1)).zip vs)=some ⟨((da xs (sL gs) 0).map (fC T)).flatten⟩:=by kernel_rfl)(oe:xs.length=len:=by kernel_rfl):
  bh P ⟨some d,.buildSlice t len parts,ty,pos,after,none⟩ a w λv w'=>∃g:Gh,v=.slice g.a len g.c∧SH M (ay L) w [.own E T xs g] w':=Ms _ xs gs vs H hS he hu hz pZ hlen nI hf rfl oe iU
theorem oP{α:Type}(T:Ty α){d:Nat}{s x:Operand}{t e e2:TypeId}(zv:Value)(g1 g2:Gh){n1 n2 c1 c2:Nat}{a1 a2:Option Addr}{l1 l2 q:List α}(hq:q=l1++l2)(hl:V.ln l1+V.ln l2≤137438953472)
  (hs:ev l [] s=some (.slice a1 n1 c1))(hx:ev l [] x=some (.slice a2 n2 c2))(ub:g1.a=a1:=by kernel_rfl)(pr:g1.c=c1:=by kernel_rfl)(CU:g2.a=a2:=by kernel_rfl)(pW:l1.length=n1:=by kernel_rfl)(pX:l2.length=n2:=by kernel_rfl)
  (hu:P.underlying t=some (.slice e):=by kernel_rfl)(hi:(P.info? e).map (λi=>(i.size,Nat.ble i.bytes 1024,i.zero))=some (T.z,true,some zv):=by kernel_rfl)(pn:zv.cells.size=T.z:=by kernel_rfl)(hz:Nat.blt 0 T.z=true:=by kernel_rfl):
  ∀a w,aw D n l a→S0 M [.own e T l1 g1,.own e2 T l2 g2] w→bh P ⟨some d,.call ⟨.builtin .append,#[s,x],#[t,t]⟩,ty,pos,after,none⟩ a w λv w'=>∃g:Gh,v=.slice g.a q.length g.c∧SH M (ay [.own e T l1 g1,.own e2 T l2 g2]) w [.own e T q g,.own e2 T l2 g2] w':=
 λ_ _ H hS=>CV q hq.symm H hS hs hx ub pr CU pW pX hu hi pn hz hl
end
abbrev gT(b:Bool):Prop:=b=true∧True
abbrev gF(b:Bool):Prop:=b=false∧True
theorem SH.Zl{M:Av}{X:List Nat}{w0 w:World}{L:List a8}{α:Type}{T:Ty α}{q:List α}{g:Gh}(h:SH M X w0 (.im T q g::L) w):SH M X w0 L w:=by
  have hf:(a8.im T q g).fp=[]:=rfl;have CR:ay (.im T q g::L)=ay L:=by simp[ay,hf]
  have Iw:dO M (.im T q g::L)=dO M L:=by unfold dO;rw[CR]
  have IG:=h.nd;rw[List.pairwise_cons]at IG;exact⟨h.kp,IG.2,λb hb=>h.lo b (by rw[CR];exact hb),λb hb=>h.nm b (by rw[CR];exact hb),h.mx,λe' he=>by
    have:=h.ps e' (List.mem_cons_of_mem _ he);rw[Iw]at this;exact this⟩
/-- How the two places are told: by a slot each, or worked out. -/
inductive Sh4 where
  |s2
  |s3 (v:Value)
  |s4 (u v:Value)
  |s8 (s t u v:Value)
namespace Sh4
def a:Sh4→Nat
  | .s8 _ _ _ _=>4
  |_=>2
def b:Sh4→Nat
  | .s2=>2
  | .s3 _=>3
  |_=>4
def ca:Sh4→List Value
  | .s8 s t _ _=>[s,t]
  |_=>[]
def cb:Sh4→List Value
  | .s2=>[]
  | .s3 v=>[v]
  | .s4 u v=>[u,v]
  | .s8 _ _ u v=>[u,v]
def n(h:Sh4):Nat:=2*h.a+2*h.b+8
def p1(h:Sh4):Nat:=h.a+h.b+h.b+1
def e0(h:Sh4):Nat:=2*h.a+2*h.b+4
def si(k n:Nat):List (List Nat):=(List.range (n-1)).map (λi=>[k+i])++[List.range' (k+1) (n-1)]
def U(h:Sh4):List (List Nat):=(List.range h.n).map λi=>cond (Nat.beq i (h.e0+1)) [h.p1,h.n] (cond (Nat.beq i (h.e0+2)) [h.e0+1] (cond (Nat.beq i (h.e0+3)) [h.e0-1,h.e0+1] (cond (Nat.beq i h.p1||(Nat.beq i (h.p1-1)||(Nat.beq i (h.e0-1)||(Nat.beq i (h.e0-2)||Nat.beq i h.e0)))) [h.n] [])))
def C(h:Sh4):List (List Nat):=List.replicate (h.e0+1) []++[[h.n],[],[h.e0+1]]
def S(h:Sh4):List (List Nat):=si 0 h.a++(si h.a h.b++(si (h.a+h.b) h.b++([List.range' (h.a+h.b) (h.b+1),List.range' (h.a+h.b) (h.b+2)]++(si (h.p1+1) h.a++[List.range' (h.p1+1) (h.a+1),List.range' (h.p1+1) (h.a+2),List.range h.a++[h.e0],List.range h.a++(List.range' (h.a+h.b) (h.b+2)++[h.e0,h.e0+1]),List.range (h.p1+1)++[h.e0,h.e0+1,h.e0+2],List.range h.n]))))
def ix(h:Sh4):List Nat:=List.range (h.e0+1)++[h.e0+2]
end Sh4
section
variable {α:Type} (h:Sh4) (Y:Ty α) (E:TypeId) (q q1 q2:List (List α)) (g:Gh) (x y:Int)
def swp(z:Int):Value:=.pointer (some ⟨ab g.a,ao g.a+z.toNat*1,none⟩)
def ui(z:Int):Value:=.slice (g.s z.toNat 0).a (gi q z).length (g.s z.toNat 0).c
def AF:List Value:=(.slice g.a q.length g.c::(h.ca++[.int .i64 x]))++((.slice g.a q.length g.c::(h.cb++[.int .i64 y]))++((.slice g.a q.length g.c::(h.cb++[.int .i64 y,swp g y,ui q g y]))++((.slice g.a q.length g.c::(h.ca++[.int .i64 x,swp g x,ui q g x]))++[swp g x,undef,swp g y,undef])))
def qN(o:Gm):List (List a8):=List.replicate h.p1 []++([.im Y (gi q y) (g.s y.toNat 0)]::(List.replicate (h.a+1) []++[[.im Y (gi q x) (g.s x.toNat 0)],[],[.own E (Ty.sl Y) q1 (.mk g.a g.c (o (h.e0+1) 0).s)],[],[.own E (Ty.sl Y) q2 (.mk g.a g.c (o (h.e0+3) 0).s)]]))
def Zm(i:Nat):List Value:=cond (Nat.beq i h.p1) [ui q g y] (cond (Nat.beq i (h.e0-1)) [ui q g x] [])
def Zn(i:Nat):Option Ob:=cond (Nat.beq i h.p1) (some (c9 ⟨ab g.a,ao g.a+y.toNat*1,none⟩ (ui q g y))) (cond (Nat.beq i (h.e0-1)) (some (c9 ⟨ab g.a,ao g.a+x.toNat*1,none⟩ (ui q g x)))
  (cond (Nat.beq i (h.p1-1)||Nat.beq i (h.e0+2)) (some λ_=>dR g.a∧0≤y∧y<ln q) (cond (Nat.beq i (h.e0-2)||Nat.beq i h.e0) (some λ_=>dR g.a∧0≤x∧x<ln q) none)))
/-- An operation that stores. -/
def RN(P:Program)(l:SF)(all:List Oper)(i:Nat)(p v:Value):Prop:=∃t x y ty pos after,all[i]?=some ⟨none,.store t x y,ty,pos,after,none⟩∧ev l [] x=some p∧ev l [] y=some v∧(P.info? t).map (·.size)=some 1
def MM(all:List Oper)(l:SF)(i:Nat):SF:=D2 all (AF h q g x y) i (h.S.getD i [])++l
def SwH(P:Program)(n:Nat)(all:List Oper)(l:SF)(L:List a8):Prop:=
  P.follows .mixedOrders=true∧(qH n l all&&(xc all&&(xf h.n (L.length+1) all h.U h.C h.S&&(all.all (λo=>o.guard.isNone)&&Nat.beq all.length h.n))))=true∧
  (h.ix.map λi=>(all[i]?).bind λo=>Ap P (MM h q g x y all l i) [] o.op (Zm h q g x y i))=h.ix.map (λi=>some ⟨(AF h q g x y).getD i undef,[],Zn h q g x y i⟩)∧
  RN P (MM h q g x y all l (h.e0+1)) all (h.e0+1) (swp g x) (ui q g y)∧RN P (MM h q g x y all l (h.e0+3)) all (h.e0+3) (swp g y) (ui q g x)∧
  ∀o,cN h.n (qN h Y E q q1 q2 g x y) (.own E (Ty.sl Y) q g::L) o (uf h.n (L.length+1) h.C)=.im Y (gi q y) (g.s y.toNat 0)::.im Y (gi q x) (g.s x.toNat 0)::.own E (Ty.sl Y) q2 (.mk g.a g.c (o (h.e0+3) 0).s)::L
end
section
variable {n:Nat} {M:Av} {X:List Nat} {w0:World} {L:List a8} {N R:dV} {ES:List (Nat×dV)} {P:Program} {all:List Oper} {id:Nat} {α:Type} {Y:Ty α} {E:TypeId} {l:SF} {g:Gh}
theorem uX(h:Sh4)(s:Nat){q q1 q2:List (List α)}{x y:Int}(hx:0≤x∧x<ln q)(hy:0≤y∧y<ln q)(e1:q1=bO q x (gi q y))(MN:0≤y∧y<ln q1)(e2:q2=bO q1 y (gi q x))
  (k:∀g':Gh,g'.a=g.a∧g'.c=g.c∧q2.length=q.length→T [] n M X w0 ((s,[],.slice g'.a q2.length g'.c)::dl [s] l) (.own E (Ty.sl Y) q2 g'::L) N)
  (hk:aQ l (s::ky (dl [s] l))=some ((s,[],.slice g.a q.length g.c)::dl [s] l):=by kernel_rfl)
  (o:SwH h Y E q q1 q2 g x y P n all ((s,[],.slice g.a q.length g.c)::dl [s] l) L:=by exact⟨by kernel_rfl,by kernel_rfl,by kernel_rfl,⟨_,_,_,_,_,_,rfl,by kernel_rfl,by kernel_rfl,by kernel_rfl⟩,⟨_,_,_,_,_,_,rfl,by kernel_rfl,by kernel_rfl,by kernel_rfl⟩,by intro _;kernel_rfl⟩):
  T [] n M X w0 l (.own E (Ty.sl Y) q g::L) λa w=>(Code.region id all.toArray true).wp P (Qs N ES R) a w:=by
 intro a w H hS;replace H:=aw.aQ H hk;clear hk;generalize dl [s] l=l at*;obtain⟨hm,iT,hp,h1,h2,hf⟩:=o;simp only[Bool.and_eq_true]at iT;obtain⟨k1,k2,k3,k4,k5⟩:=iT;have he:=λi (hi:gS h.ix i=true)=>List.map_inj_left.1 hp i (qg.1 hi);have hl:q2.length=q.length:=by rw[e2,th,e1,th]
 refine D3 h.n (L.length+1) (λ_=>AF h q g x y) (qN h Y E q q1 q2 g x y) h.U h.C h.S [] H (λ_ _ h=>by cases h) rfl hS hm (Nat.eq_of_beq_eq_true k5) rfl k1 k2 k3 (nj k4 _ _) ?_ (λa' w' yg H' _ hS=>?_) ?_
 rotate_left
 · rw[hf]at hS;refine k (.mk g.a g.c (yg (h.e0+3) 0).s) ⟨rfl,rfl,hl⟩ _ _ ?_ hS.Zl.Zl;rw[hl];exact H'
 · cases h<;>repeat (first|exact trivial|refine And.intro (λ_=>And.intro rfl (by kernel_rfl)) ?_)
 have HL:∀{i:Nat}{z:Int},gS h.ix i=true→0≤z∧z<ln q→(AF h q g x y).getD i undef=ui q g z→Zm h q g x y i=[ui q g z]→Zn h q g x y i=some (c9 ⟨ab g.a,ao g.a+z.toNat*1,none⟩ (ui q g z))→h.U.getD i []=[h.n]→h.C.getD i []=[]→Nat.blt h.n h.n=false→(∀y',(qN h Y E q q1 q2 g x y y').getD i []=[.im Y (gi q z) (g.s z.toNat 0)])→
   ∀o,all[i]?=some o→∀a' w' (y':Gm) M',aw [] n ((s,[],.slice g.a q.length g.c)::l) a'→(∀j∈h.S.getD i [],j≠i→∀d,dI all j=some d→a'.tmps[d]?=some ((AF h q g x y).getD j undef))→(∀(k:Nat) e,([]:List (Nat×Nat×Value))[k]?=some e→(Nat.beq e.2.1 i||reach all h.n e.2.1 i)=true→a'.tmps[e.1]?=some e.2.2)→S0 M' (cN h.n (qN h Y E q q1 q2 g x y) (.own E (Ty.sl Y) q g::L) y' (h.U.getD i [])) w'→
   bh P (ti o) a' w' λv w2=>∃g':Nat→Gh,(∀d,dI all i=some d→v=(AF h q g x y).getD i undef)∧SH M' (ay (cN h.n (qN h Y E q q1 q2 g x y) (.own E (Ty.sl Y) q g::L) y' (h.U.getD i []))) w' ((qN h Y E q q1 q2 g x y (dG y' i g')).getD i []++cN h.n (qN h Y E q q1 q2 g x y) (.own E (Ty.sl Y) q g::L) y' ((h.U.getD i []).filter λj=>!(gS (h.C.getD i []) j))) w2:=by
  intro i z hi hz c1 c2 c3 c4 c5 c6 c7 o ho a' w' y' M' Hb hv _ hS;have hr:cN h.n (qN h Y E q q1 q2 g x y) (.own E (Ty.sl Y) q g::L) y' [h.n]=[.own E (Ty.sl Y) q g]:=by
   rw[cN,c6,Nat.sub_self];rfl
  rw[c4,hr]at hS;rw[c4,c5,show([h.n].filter λj=>!(gS [] j))=[h.n]from rfl,hr];have hh:=he i hi;rw[ho,Option.bind_some,c1,c2,c3]at hh;obtain⟨d,op,ty,pos,after,gd⟩:=o;refine bh.mono (oc (o:=⟨d,op,ty,pos,after,none⟩) [ui q g z] _ _ [] (MH Hb _ hv) rfl hh (λp e=>by cases e;exact(hS.cB 0 rfl).c9 hz 0 rfl)) ?_;rintro v w2 ⟨rfl,hq⟩;refine⟨gL [],λ_ _=>c1.symm,?_⟩;rw[c7];exact(hS.below hq.below).eN (eK (((hS.below hq.below).ow (E:=E) (T:=Ty.sl Y) (l:=q) (g:=g) 0 rfl).el hz))
 have HS:∀(i:Nat)(z:Int)(el:List α)(ge:Gh)(qa qb:List (List α))(ga:Gm→Gh),0≤z∧z<ln qa→qb=bO qa z el→(∀y',(ga y').a=g.a)→RN P (MM h q g x y all ((s,[],.slice g.a q.length g.c)::l) i) all i (swp g z) (.slice ge.a el.length ge.c)→(∀y',cN h.n (qN h Y E q q1 q2 g x y) (.own E (Ty.sl Y) q g::L) y' (h.U.getD i [])=[.im Y el ge,.own E (Ty.sl Y) qa (ga y')])→(∀y',cN h.n (qN h Y E q q1 q2 g x y) (.own E (Ty.sl Y) q g::L) y' ((h.U.getD i []).filter λj=>!(gS (h.C.getD i []) j))=[.im Y el ge])→(∀y' (g':Nat→Gh),(qN h Y E q q1 q2 g x y (dG y' i g')).getD i []=[.own E (Ty.sl Y) qb (.mk (ga y').a (ga y').c (g' 0).s)])→
   ∀o,all[i]?=some o→∀a' w' (y':Gm) M',aw [] n ((s,[],.slice g.a q.length g.c)::l) a'→(∀j∈h.S.getD i [],j≠i→∀d,dI all j=some d→a'.tmps[d]?=some ((AF h q g x y).getD j undef))→(∀(k:Nat) e,([]:List (Nat×Nat×Value))[k]?=some e→(Nat.beq e.2.1 i||reach all h.n e.2.1 i)=true→a'.tmps[e.1]?=some e.2.2)→S0 M' (cN h.n (qN h Y E q q1 q2 g x y) (.own E (Ty.sl Y) q g::L) y' (h.U.getD i [])) w'→
   bh P (ti o) a' w' λv w2=>∃g':Nat→Gh,(∀d,dI all i=some d→v=(AF h q g x y).getD i undef)∧SH M' (ay (cN h.n (qN h Y E q q1 q2 g x y) (.own E (Ty.sl Y) q g::L) y' (h.U.getD i []))) w' ((qN h Y E q q1 q2 g x y (dG y' i g')).getD i []++cN h.n (qN h Y E q q1 q2 g x y) (.own E (Ty.sl Y) q g::L) y' ((h.U.getD i []).filter λj=>!(gS (h.C.getD i []) j))) w2:=by
  intro i z el ge qa qb ga hz e ha qE c1 c2 c3 o ho a' w' y' M' Hb hv _ hS;obtain⟨t,xo,yo,ty,pos,after,r1,r2,r3,r4⟩:=qE;have Rh:dI all i=none:=by unfold dI;rw[r1];rfl
  rw[r1]at ho;obtain rfl:=Option.some.inj ho;rw[c1]at hS;rw[c1,c2];have hd:=hS.hand [1,0] [0] rfl rfl;refine bh.mono (Aw (T:=Ty.sl Y) (g:=ga y') (q:=qa) (ix:=z) (off:=0) el (gL [ge]) (MH Hb _ hv) hd r2 (by rw[ha]) (by rw[ha];rfl) r3 r4 rfl rfl hz rfl (hd.im 1 rfl) rfl) ?_;rintro v w2 ⟨s1,hq⟩;rw[←e]at hq;refine⟨gL [Gh.mk none 0 s1],λ_ h=>(by rw[Rh]at h;cases h),?_⟩;rw[c3];exact hS.join [1,0] [0] rfl rfl hq
 rcases h with _|v|⟨u,v⟩|⟨s',t',u,v⟩
 all_goals repeat first
  |exact trivial
  |refine And.intro (bw (λ_=>he _ rfl)) ?_
  |refine And.intro (se (λ_ _=>[⟨none,λ_=>dR g.a∧0≤y∧y<ln q,λ_ hS=>(hS.cB 0 rfl).iB hy⟩]) (λ_ _=>he _ rfl)) ?_
  |refine And.intro (se (λ_ _=>[⟨none,λ_=>dR g.a∧0≤x∧x<ln q,λ_ hS=>(hS.cB 0 rfl).iB hx⟩]) (λ_ _=>he _ rfl)) ?_
  |refine And.intro (HL rfl hy rfl rfl rfl rfl rfl rfl (λ_=>rfl)) ?_
  |refine And.intro (HL rfl hx rfl rfl rfl rfl rfl rfl (λ_=>rfl)) ?_
  |refine And.intro (HS _ x (gi q y) (g.s y.toNat 0) q q1 (λ_=>g) hx e1 (λ_=>rfl) h1 (λ_=>rfl) (λ_=>rfl) (λ_ _=>rfl)) ?_
  |refine And.intro (se (λo _=>[⟨none,λ_=>dR g.a∧0≤y∧y<ln q,λ_ hS=>⟨((hS.cB (E:=E) (T:=Ty.sl Y) (l:=q1) 0 rfl).iB MN).1,hy⟩⟩]) (λ_ _=>he _ rfl)) ?_
  |refine And.intro (HS _ y (gi q x) (g.s x.toNat 0) q1 q2 (λo=>.mk g.a g.c (o _ 0).s) MN e2 (λ_=>rfl) h2 (λ_=>rfl) (λ_=>rfl) (λ_ _=>rfl)) ?_
theorem qO{β γ δ:Type}{a a' a2:β}{b b' b2:γ}{c c' c2:δ}(h:a=a'∧b=b'∧c=c')(k:a'=a2∧b'=b2∧c'=c2):a=a2∧b=b2∧c=c2:=⟨h.1.trans k.1,h.2.1.trans k.2.1,h.2.2.trans k.2.2⟩
end
section
variable {D:List Deferred}
def oZ:Nat→List (a6×Value)→List MapEntry
 |_,[]=>[]
 |i,x::r=>⟨.string ⟨⟨x.1⟩⟩,x.2,i⟩::oZ (i+1) r
def Mp(w:World)(b:Nat)(l:List (a6×Value)):Prop:=w.heap[b]?=some (.map ⟨oZ 0 l⟩ l.length)
theorem Mp.lt{w:World}{b:Nat}{l:List (a6×Value)}(h:Mp w b l):b<w.heap.size:=by
 rcases Nat.lt_or_ge b w.heap.size with h1|h1
 ·exact h1
 ·unfold Mp at h;rw[Array.getElem?_eq_none h1]at h;cases h
theorem Mp.kp{w w':World}{b:Nat}{l:List (a6×Value)}{X:List Nat}(h:Mp w b l)(k:Kp X w w')(hX:b∉X):Mp w' b l:=(k.block b h.lt hX).trans h
def a8.uj(b:Nat)(l:List (a6×Value)):a8 where
 fp:=[b]
 p:=λ_ w=>Mp w b l
 kp:=λh k _ hX=>h.kp k (hX b (by simp))
 bU:=λh _=>h
 fresh:=λh=>h
 lt:=λh=>by simpa using h.lt
theorem Zo:∀(i:Nat)(l r:List (a6×Value)),oZ i (l++r)=oZ i l++oZ (i+l.length) r
 |i,[],r=>by simp[oZ]
 |i,x::l,r=>by
  rw[List.cons_append,oZ,Zo (i+1) l r,oZ,List.length_cons,show i+1+l.length=i+(l.length+1) by omega];rfl
def kx:List a6→a6→Nat
 |[],_=>0
 |x::r,s=>if s==x then 0 else kx r s+1
theorem MO:∀(l:List a6)(s:a6),kx l s≤l.length
 |[],_=>by simp[kx]
 |x::r,s=>by
  unfold kx;split
  ·simp
  ·have:=MO r s;simp;omega
def qP(l:List a6)(s:a6):Int:=(kx l s:Int)
theorem a5n(s t:a6):((⟨⟨s⟩⟩:ByteArray)==⟨⟨t⟩⟩)=(s==t):=by
 show((⟨s⟩:Array UInt8)==⟨t⟩)=(s==t);rw[Bool.eq_iff_iff,beq_iff_eq,beq_iff_eq];exact⟨λh=>by injection h,λh=>by rw[h]⟩
theorem RO:∀(l:List (a6×Value))(s:a6)(i j:Nat),Instr.findNow .string (.string ⟨⟨s⟩⟩) (oZ j l) i=some ((l[kx (l.map (·.1)) s]?).map λx=>(i+kx (l.map (·.1)) s,x.2))
 |[],s,i,j=>rfl
 |x::r,s,i,j=>by
  have ih:=RO r s (i+1) (j+1);rw[oZ,Instr.findNow];show(match(some ((⟨⟨s⟩⟩:ByteArray)==⟨⟨x.1⟩⟩):Option Bool)with
   |some true=>some (some (i,x.2))
   |some false=>Instr.findNow .string (.string ⟨⟨s⟩⟩) (oZ (j+1) r) (i+1)
   |none=>none)=_
  rw[a5n,List.map_cons,kx];cases s==x.1 with
  |true=>simp
  |false=>
   simp only[ih,Bool.false_eq_true,if_false,List.getElem?_cons_succ];cases r[kx (r.map (·.1)) s]? with
   |none=>rfl
   |some y=>simp;omega
section
variable {P:Program} {a:Act} {w:World} {n:Nat} {l:SF} {M:Av}
theorem a5o{w:World}{b:Nat}(o:Obj):Kp [b] w {w with heap:=w.heap.setIfInBounds b o}:=
 ⟨rfl,rfl,rfl,by simp,λk hk hx=>by
  have:k≠b:=by simpa using hx
  simp[Ne.symm this]⟩
theorem RP{d:Option Tmp}{t:TypeId}{ty:TypeId}{pos:String}{after:Array Edge}(hS:S0 M [] w):
  bh P ⟨d,.makeMap t none,ty,pos,after,none⟩ a w λu w'=>∃b:Nat,u=.map (some b)∧SH M (ay []) w [.uj b []] w':=by
 refine bh.o9 (v:=.map (some w.heap.size)) (w':=w.alloc (.map #[] 0)) ?_ ⟨w.heap.size,rfl,SH.step hS (Kp.wY ((Below.refl _ _).alloc (Nat.le_refl _) _) []) (by simp) (by simp[ay,a8.uj]) ?_⟩
 ·simp[execOp,run_makeMap_plain]
 ·intro e he;rw[List.mem_singleton]at he;subst he;show(w.heap.push (.map #[] 0))[w.heap.size]?=some (.map ⟨oZ 0 []⟩ 0);simp[oZ]
theorem uk{t kt et:TypeId}{x y z:Operand}{ty:TypeId}{pos:String}{after:Array Edge}{b:Nat}{ls:List (a6×Value)}{k:a6}{v:Value}(H:aw D n l a)(hS:S0 M [.uj b ls] w)
  (hx:ev l [] x=some (.map (some b)))(hy:ev l [] y=some (.string ⟨⟨k⟩⟩))(hz:ev l [] z=some v)(hm:P.underlying t=some (.map kt et))(hk:P.underlying kt=some .string)(hn:kx (ls.map (·.1)) k=ls.length):
  bh P ⟨none,.insert t x y z,ty,pos,after,none⟩ a w λ_ w'=>SH M (ay [.uj b ls]) w [.uj b (ls++[(k,v)])] w':=by
 have hb:Mp w b ls:=SH.at hS 0 rfl;have hf:Instr.findNow .string (.string ⟨⟨k⟩⟩) (oZ 0 ls) 0=some none:=by
  rw[RO,hn,List.getElem?_eq_none (by omega)];rfl
 have hc:(Instr.checkKey false 10000 kt (.string ⟨⟨k⟩⟩)).run P w=.ok () w:=MapKept.run_checkKey (k:=.string ⟨⟨k⟩⟩) hk (by simp[MapKept.IsKey]) false 9999;refine bh.skip (w':={w with heap:=w.heap.setIfInBounds b (.map ⟨oZ 0 (ls++[(k,v)])⟩ (ls.length+1))}) ?_ rfl λ_=>SH.step hS ((a5o _).wide (by simp[ay,a8.uj])) (by simp) (by simp[ay,a8.uj]) ?_
 ·have he:(⟨oZ 0 ls⟩:Array MapEntry).push ⟨.string ⟨⟨k⟩⟩,v,ls.length⟩=⟨oZ 0 (ls++[(k,v)])⟩:=by
   rw[Zo];simp[oZ]
  simp[execOp,H.ev (eM a) hx,H.ev (eM a) hy,H.ev (eM a) hz,Instr.mapUpdate,run_underlying hm,MapKept.run_getObj_map hb,hc,MapKept.run_findKey hk hf,MapKept.run_setObj_map _ hb,Result.andThen,he]
 ·intro e he;rw[List.mem_singleton]at he;subst he;show(w.heap.setIfInBounds b _)[b]?=_;rw[Array.getElem?_setIfInBounds];simp[hb.lt]
theorem Zp{t kt et:TypeId}{b:Nat}{ls:List (a6×Value)}{k:a6}{z:Value}(F:Int→Value)(hb:Mp w b ls)(hm:P.underlying t=some (.map kt et))(hk:P.underlying kt=some .string)(hz:(P.info? et).map (·.zero)=some (some z))
  (hF:ls.map (·.2)++[z]=(List.range (ls.length+1)).map λ(i:Nat)=>F (i:Int))(c:Bool):
  (Instr.lookup t (.map (some b)) (.string ⟨⟨k⟩⟩) c).run P w=.ok (if c then .tuple #[F (qP (ls.map (·.1)) k),.bool (decide (qP (ls.map (·.1)) k<(ls.length:Int)))]else F (qP (ls.map (·.1)) k)) w:=by
 have wW:(zeroValue et).run P w=.ok z w:=by
  cases hi:P.info? et with
  |none=>simp[hi]at hz
  |some inf=>
   simp[hi]at hz;simp[zeroValue,typeInfo,hi,hz]
 have hc:∀e,(Instr.checkKey e 10000 kt (.string ⟨⟨k⟩⟩)).run P w=.ok () w:=λe=>MapKept.run_checkKey (k:=.string ⟨⟨k⟩⟩) hk (by simp[MapKept.IsKey]) e 9999;have hle:=MO (ls.map (·.1)) k;rw[List.length_map]at hle;have hg:(ls.map (·.2)++[z])[kx (ls.map (·.1)) k]?=some (F (qP (ls.map (·.1)) k)):=by
  rw[hF,List.getElem?_map,List.getElem?_range (by omega)];rfl
 have hf:=RO ls k 0 0;rcases Nat.lt_or_ge (kx (ls.map (·.1)) k) ls.length with h|h
 ·rw[List.getElem?_append_left (by simpa using h),List.getElem?_map,List.getElem?_eq_getElem h]at hg;have hg:=Option.some.inj hg;rw[List.getElem?_eq_getElem h]at hf;have hd:decide (qP (ls.map (·.1)) k<(ls.length:Int))=true:=decide_eq_true (by unfold qP;omega);rw[hd,←hg];simp[Instr.lookup,run_underlying hm,MapKept.run_getObj_map hb,hc,MapKept.run_findKey hk hf,Result.andThen]
 ·have he:kx (ls.map (·.1)) k=ls.length:=by omega
  rw[he,List.getElem?_append_right (by simp),List.length_map,Nat.sub_self]at hg;have hg:z=F (qP (ls.map (·.1)) k):=Option.some.inj hg;rw[List.getElem?_eq_none (by omega)]at hf;have hd:decide (qP (ls.map (·.1)) k<(ls.length:Int))=false:=decide_eq_false (by unfold qP;omega);rw[hd,←hg];simp[Instr.lookup,run_underlying hm,MapKept.run_getObj_map hb,hc,MapKept.run_findKey hk hf,wW,Result.andThen]
theorem Zq{d:Option Tmp}{t kt et:TypeId}{x y:Operand}{c:Bool}{ty:TypeId}{pos:String}{after:Array Edge}{b:Nat}{ls:List (a6×Value)}{k:a6}{z:Value}{ix:Int}(F:Int→Value)(u:Value)(H:aw D n l a)(hS:S0 M [.uj b ls] w)(Ax:ix=qP (ls.map (·.1)) k)
  (hu:(if c then .tuple #[F ix,.bool (decide (ix<(ls.length:Int)))]else F ix)=u)
  (hx:ev l [] x=some (.map (some b)))(hy:ev l [] y=some (.string ⟨⟨k⟩⟩))(hm:P.underlying t=some (.map kt et))(hk:P.underlying kt=some .string)(hz:(P.info? et).map (·.zero)=some (some z))
  (hF:ls.map (·.2)++[z]=(List.range (ls.length+1)).map λ(i:Nat)=>F (i:Int)):
  bh P ⟨d,.lookup t x y c,ty,pos,after,none⟩ a w λv w'=>v=u∧SH M (ay [.uj b ls]) w [.uj b ls] w':=by
 have hb:Mp w b ls:=SH.at hS 0 rfl;subst Ax hu;refine bh.o9 (w':=w) ?_ ⟨rfl,SH.step hS (Kp.refl _ _) (by simp) (by simp[ay,a8.uj]) λe he=>?_⟩
 ·simp[execOp,H.ev (eM a) hx,H.ev (eM a) hy,Zp F hb hm hk hz hF c]
 ·rw[List.mem_singleton]at he;subst he;exact hb
end
end
section
variable {D:List Deferred}
abbrev Mi:=List (a6×Int)
def l7(ms:Mi):List (a6×Value):=ms.map λx=>(x.1,.int .i64 x.2)
def qQ:Mi→a6→Bool
 |[],_=>false
 |x::r,s=>s==x.1||qQ r s
def rU:Mi→a6→Int
 |[],_=>0
 |x::r,s=>cond (s==x.1) x.2 (rU r s)
theorem RQ:∀(ms:Mi)(s:a6),qQ ms s=decide (kx ((l7 ms).map (·.1)) s<(l7 ms).length)
 |[],s=>by simp[qQ,l7,kx]
 |x::r,s=>by
  have ih:=RQ r s;simp only[qQ,l7,List.map_cons,kx,List.length_cons]at ih⊢;cases s==x.1 with
  |true=>simp
  |false=>simp only[Bool.false_or,ih];simp
theorem Zr:∀(ms:Mi)(s:a6),((l7 ms).map (·.2)++[.int .i64 0])[kx ((l7 ms).map (·.1)) s]?=some (.int .i64 (rU ms s))
 |[],s=>rfl
 |x::r,s=>by
  have ih:=Zr r s;simp only[rU,l7,List.map_cons,kx,List.cons_append]at ih⊢;cases s==x.1 with
  |true=>rfl
  |false=>simpa[l7]using ih
def a8.aY(b:Nat)(ms:Mi):a8:=.uj b (l7 ms)
def a8.mpr(b:Nat)(ms:Mi):a8 where
 fp:=[]
 p:=λM w=>Mp w b (l7 ms)∧¬M b
 kp:=λh k hM _=>⟨h.1.kp k (λhx=>h.2 (hM _ hx)),h.2⟩
 bU:=λh hM=>⟨h.1,λhb=>h.2 (hM _ hb)⟩
 fresh:=λh=>⟨h.1,λhb=>by
  rcases hb with hb|hb
  ·exact h.2 hb
  ·have:=h.1.lt;omega⟩
 lt:=λ_ b hb=>by cases hb
section
variable {M:Av} {X:List Nat} {w0 w:World} {L:List a8}
theorem SH.mi(h:SH M X w0 L w)(k:Nat){b:Nat}{ms:Mi}(hk:L[k]?=some (.aY b ms)):Mp w b (l7 ms):=h.at k hk
theorem SH.mr(h:SH M X w0 L w)(k:Nat){b:Nat}{ms:Mi}(hk:L[k]?=some (.mpr b ms)):Mp w b (l7 ms):=(h.at k hk).1
theorem rV(h:S0 F0 L w∧ay L=[]){b:Nat}{ms:Mi}(hs:Mp w b (l7 ms)):S0 F0 (.mpr b ms::L) w∧ay (.mpr b ms::L)=[]:=by
 refine⟨?_,by simp only[ay,h.2];rfl⟩;have h1:SH F0 (ay (.mpr b ms::L)) w L w:=by
  have:ay (.mpr b ms::L)=ay L:=by simp[ay,a8.mpr]
  rw[this];exact h.1
 refine h1.add rfl ⟨hs,λhb=>?_⟩;rcases hb with hb|hb
 ·exact hb.elim
 ·rw[h.2]at hb;cases hb
end
section
variable {P:Program} {a:Act} {w:World} {n:Nat} {l:SF} {M:Av}
theorem a5p{d:Option Tmp}{t:TypeId}{ty:TypeId}{pos:String}{after:Array Edge}(hS:S0 M [] w):
  bh P ⟨d,.makeMap t none,ty,pos,after,none⟩ a w λu w'=>∃b:Nat,u=.map (some b)∧SH M (ay []) w [.aY b []] w':=RP hS
theorem a5q{t kt et:TypeId}{x y z:Operand}{ty:TypeId}{pos:String}{after:Array Edge}{b:Nat}{ms:Mi}{k:a6}{v:Int}(H:aw D n l a)(hS:S0 M [.aY b ms] w)
  (hx:ev l [] x=some (.map (some b)))(hy:ev l [] y=some (.string ⟨⟨k⟩⟩))(hz:ev l [] z=some (.int .i64 v))(hm:P.underlying t=some (.map kt et))(hk:P.underlying kt=some .string)(hn:qQ ms k=false):
  bh P ⟨none,.insert t x y z,ty,pos,after,none⟩ a w λ_ w'=>SH M (ay [.aY b ms]) w [.aY b (ms++[(k,v)])] w':=by
 have h1:kx ((l7 ms).map (·.1)) k=(l7 ms).length:=by
  rw[RQ]at hn;have h2:=MO ((l7 ms).map (·.1)) k;rw[List.length_map]at h2;have:=of_decide_eq_false hn;omega
 have h2:=uk (ty:=ty) (pos:=pos) (after:=after) H hS hx hy hz hm hk h1;have h3:l7 ms++[(k,.int .i64 v)]=l7 (ms++[(k,v)]):=by simp[l7]
 rw[h3]at h2;exact h2
theorem a5r{t kt et:TypeId}{x y z:Operand}{ty:TypeId}{pos:String}{after:Array Edge}{b:Nat}{ms:Mi}{k:a6}{v:Int}(H:aw D n l a)(hS:S0 M [.aY b ms] w)
  (hx:ev l [] x=some (.map (some b)))(hy:ev l [] y=some (.string ⟨⟨k⟩⟩))(hz:ev l [] z=some (.int .i64 v))(hm:P.underlying t=some (.map kt et))(hk:P.underlying kt=some .string)(hn:qQ ms k=false):
  bh P ⟨none,.mapUpdate t x y z,ty,pos,after,none⟩ a w λ_ w'=>SH M (ay [.aY b ms]) w [.aY b (ms++[(k,v)])] w':=
 a5q (ty:=ty) (pos:=pos) (after:=after) H hS hx hy hz hm hk hn
theorem Zs{t kt et:TypeId}{b:Nat}{ms:Mi}{k:a6}(hb:Mp w b (l7 ms))(hm:P.underlying t=some (.map kt et))(hk:P.underlying kt=some .string)(hz:(P.info? et).map (·.zero)=some (some (.int .i64 0)))(c:Bool):
  (Instr.lookup t (.map (some b)) (.string ⟨⟨k⟩⟩) c).run P w=.ok (if c then .tuple #[.int .i64 (rU ms k),.bool (qQ ms k)]else .int .i64 (rU ms k)) w:=by
 have h:=Zp (P:=P) (λi=>(((l7 ms).map (·.2)++[.int .i64 0])[i.toNat]?).getD undef) (k:=k) hb hm hk hz (by
  apply List.ext_getElem
  ·simp
  ·intro i h1 h2;simp only[List.getElem_map,List.getElem_range,Int.toNat_natCast];rw[List.getElem?_eq_getElem h1];rfl) c
 have h1:qP ((l7 ms).map (·.1)) k=(kx ((l7 ms).map (·.1)) k:Int):=rfl;rw[h];simp only[h1,Int.toNat_natCast,Zr,Option.getD_some];rw[RQ];simp only[Int.ofNat_lt]
theorem a5s{d:Option Tmp}{t kt et:TypeId}{x y:Operand}{c:Bool}{ty:TypeId}{pos:String}{after:Array Edge}{b:Nat}{ms:Mi}{k:a6}(u:Value)(hu:(if c then .tuple #[.int .i64 (rU ms k),.bool (qQ ms k)]else .int .i64 (rU ms k))=u)(H:aw D n l a)(hS:S0 M [.aY b ms] w)
  (hx:ev l [] x=some (.map (some b)))(hy:ev l [] y=some (.string ⟨⟨k⟩⟩))(hm:P.underlying t=some (.map kt et))(hk:P.underlying kt=some .string)(hz:(P.info? et).map (·.zero)=some (some (.int .i64 0))):
  bh P ⟨d,.lookup t x y c,ty,pos,after,none⟩ a w λv w'=>v=u∧SH M (ay [.aY b ms]) w [.aY b ms] w':=by
 have hb:Mp w b (l7 ms):=SH.mi hS 0 rfl;subst hu;refine bh.o9 (w':=w) ?_ ⟨rfl,hS⟩;simp[execOp,H.ev (eM a) hx,H.ev (eM a) hy,Zs hb hm hk hz c]
theorem Zt{d:Option Tmp}{t kt et:TypeId}{x y:Operand}{c:Bool}{ty:TypeId}{pos:String}{after:Array Edge}{b:Nat}{ms:Mi}{k:a6}(u:Value)(hu:(if c then .tuple #[.int .i64 (rU ms k),.bool (qQ ms k)]else .int .i64 (rU ms k))=u)(H:aw D n l a)(hS:S0 M [.mpr b ms] w)
  (hx:ev l [] x=some (.map (some b)))(hy:ev l [] y=some (.string ⟨⟨k⟩⟩))(hm:P.underlying t=some (.map kt et))(hk:P.underlying kt=some .string)(hz:(P.info? et).map (·.zero)=some (some (.int .i64 0))):
  bh P ⟨d,.lookup t x y c,ty,pos,after,none⟩ a w λv w'=>v=u∧SH M (ay [.mpr b ms]) w [.mpr b ms] w':=by
 have hb:Mp w b (l7 ms):=SH.mr hS 0 rfl;subst hu;refine bh.o9 (w':=w) ?_ ⟨rfl,hS⟩;simp[execOp,H.ev (eM a) hx,H.ev (eM a) hy,Zs hb hm hk hz c]
end
end
section
variable {D:List Deferred}
def pkP(Ls:List a8)(M:Av)(w:World):Prop:=Ls.Pairwise (λ(e f:a8)=>Dj e.fp f.fp)∧∀e∈Ls,e.p M w
def a8.pk(Ls:List a8):a8 where
 fp:=ay Ls
 p:=pkP Ls
 kp:=λh k hM hX=>⟨h.1,λe he=>e.kp (h.2 e he) k hM λb hb=>hX b (jo.2 ⟨e,he,hb⟩)⟩
 bU:=λh hM=>⟨h.1,λe he=>e.bU (h.2 e he) hM⟩
 fresh:=λh=>⟨h.1,λe he=>e.fresh (h.2 e he)⟩
 lt:=λh b hb=>by
  obtain⟨e,he,Ix⟩:=jo.1 hb;exact e.lt (h.2 e he) b Ix
section
variable {M:Av} {X:List Nat} {w0 w:World} {L Ls:List a8}
theorem Fx:ay (a8.pk Ls::L)=ay (Ls++L):=by rw[CX];rfl
theorem SH.pack(h:SH M X w0 (Ls++L) w):SH M X w0 (.pk Ls::L) w:=by
 have hn:=h.nd;rw[List.pairwise_append]at hn;have ha:∀b,dO M (.pk Ls::L) b→dO M (Ls++L) b:=λb hb=>by
  rcases hb with hb|hb
  ·exact .inl hb
  ·rw[Fx]at hb;exact .inr hb
 refine⟨h.kp,?_,λb hb=>h.lo b (by rw[←Fx];exact hb),λb hb=>h.nm b (by rw[←Fx];exact hb),h.mx,λe he=>?_⟩
 ·rw[List.pairwise_cons];refine⟨λf hf y hy yl=>?_,hn.2.1⟩;obtain⟨e,he,hye⟩:=jo.1 (show y∈ay Ls from hy);exact hn.2.2 e he f hf y hye yl
 ·rcases List.mem_cons.1 he with rfl|he
  ·exact⟨hn.1,λe he=>e.bU (h.ps e (List.mem_append_left _ he)) ha⟩
  ·exact e.bU (h.ps e (List.mem_append_right _ he)) ha
theorem SH.unpack(h:SH M X w0 (.pk Ls::L) w):SH M X w0 (Ls++L) w:=by
 have hn:=h.nd;rw[List.pairwise_cons]at hn;have hp:(a8.pk Ls).p (dO M (.pk Ls::L)) w:=h.ps _ List.mem_cons_self;have ha:∀b,dO M (Ls++L) b→dO M (.pk Ls::L) b:=λb hb=>by
  rcases hb with hb|hb
  ·exact .inl hb
  ·rw[←Fx]at hb;exact .inr hb
 refine⟨h.kp,?_,λb hb=>h.lo b (by rw[Fx];exact hb),λb hb=>h.nm b (by rw[Fx];exact hb),h.mx,λe he=>?_⟩
 ·rw[List.pairwise_append];exact⟨hp.1,hn.2,λe he f hf y hy yl=>hn.1 f hf y (jo.2 ⟨e,he,hy⟩) yl⟩
 ·rcases List.mem_append.1 he with he|he
  ·exact e.bU (hp.2 e he) ha
  ·exact e.bU (h.ps e (List.mem_cons_of_mem _ he)) ha
end
abbrev Hd(α:Type):=List α×Gh
def kH(α:Type):Ty (Hd α):=.flat 1 (λp=>[.slice p.2.a p.1.length p.2.c]) (λ_=>rfl) (λ_=>rfl)
def kK{α:Type}(E:TypeId)(T:Ty α)(qs:List (Hd α)):List a8:=qs.map λq=>.own E T q.1 q.2
def a8.nL{α:Type}(E:TypeId)(T:Ty α)(qs:List (Hd α)):a8:=.pk (kK E T qs)
section
variable {α:Type} {E E2:TypeId} {T:Ty α} {M:Av} {X:List Nat} {w0 w:World} {L:List a8} {qs:List (Hd α)}
theorem SH.a5t(h:SH M X w0 L w):SH M X w0 (.nL E T [(([]:List α),.nil)]::L) w:=SH.pack (Ls:=kK E T [([],.nil)]) (h.CS E T)
theorem SH.a5u(h:SH M X w0 (.nL E T qs::L) w):SH M X w0 (.nL E T (qs++[([],.nil)])::L) w:=by
 have h1:=(SH.unpack h).CS E T;refine SH.pack (h1.perm ?_);show(a8.own E T ([]:List α) .nil::(kK E T qs++L)).Perm (kK E T (qs++[([],.nil)])++L);have e:kK E T (qs++[(([]:List α),Gh.nil)])++L=kK E T qs++a8.own E T ([]:List α) .nil::L:=by simp[kK]
 rw[e];exact List.perm_middle.symm
theorem Zu{β:Type}:∀(l:List β)(k:Nat)(_:k<l.length),(l[k]::l.eraseIdx k).Perm l
 |_::_,0,_=>List.Perm.refl _
 |x::r,k+1,hk=>(List.Perm.swap _ _ _).trans ((Zu r k (by simpa using hk)).cons x)
theorem Zv{β:Type}(q:β):∀(l:List β)(k:Nat)(_:k<l.length),(q::l.eraseIdx k).Perm (l.set k q)
 |_::_,0,_=>List.Perm.refl _
 |x::r,k+1,h=>(List.Perm.swap _ _ _).trans ((Zv q r k (by simpa using h)).cons x)
theorem Zw{k:Nat}(hk:k<qs.length):(a8.own E T qs[k].1 qs[k].2::kK E T (qs.eraseIdx k)).Perm (kK E T qs):=
 (Zu qs k hk).map λq:Hd α=>a8.own E T q.1 q.2
theorem Zx{k:Nat}(hk:k<qs.length)(q:Hd α):(a8.own E T q.1 q.2::kK E T (qs.eraseIdx k)).Perm (kK E T (qs.set k q)):=
 (Zv q qs k hk).map λq:Hd α=>a8.own E T q.1 q.2
theorem RR{k:Int}(hk:0≤k∧k<ln qs):gi qs k=qs[k.toNat]'(by unfold ln at hk;omega):=by
 have h:k.toNat<qs.length:=by unfold ln at hk;omega
 simp[gi,List.getD_eq_getElem?_getD,List.getElem?_eq_getElem h]
theorem a5v:V.ln (qs.map (·.1))=V.ln qs:=by simp[V.ln]
theorem a5w{k:Int}(hk:0≤k∧k<V.ln qs):gi (qs.map (·.1)) k=(gi qs k).1:=by
 rw[RR hk];have h:k.toNat<qs.length:=by unfold V.ln at hk;omega
 simp[gi,List.getD_eq_getElem?_getD,List.getElem?_eq_getElem h]
theorem Zy{k:Int}{p:Hd α}:bO (qs.map (·.1)) k p.1=(bO qs k p).map (·.1):=by simp[bO,List.map_set]
theorem Zz{β:Type}{l:List β}{k:Int}{p q:β}:bO (bO l k p) k q=bO l k q:=by simp[bO]
theorem a5x{β:Type}[Inhabited β]{l:List β}{k:Int}{p:β}(hk:0≤k∧k<V.ln l):gi (bO l k p) k=p:=by
 have h:k.toNat<l.length:=by unfold V.ln at hk;omega
 simp[gi,bO,List.getD_eq_getElem?_getD,h]
theorem a5y{β:Type}{l:List β}{x y:β}:bO (l++[x]) (V.ln l) y=l++[y]:=by simp[bO,V.ln]
theorem a5z{k:Int}{p p':Hd α}(h:Value.slice p'.2.a p'.1.length p'.2.c=Value.slice p.2.a p.1.length p.2.c):(bO qs k p).map (λp:Hd α=>Value.slice p.2.a p.1.length p.2.c)=(bO (bO qs k p) k p').map λp:Hd α=>Value.slice p.2.a p.1.length p.2.c:=by
 rw[Zz];simp only[bO,List.map_set,h]
theorem ZA:∀(qs:List (Hd α))(s:Nat→Nat→Gh)(t:Nat→Nat→Gh)(i:Nat),(∀j (h:j<qs.length),t (i+j) 0=qs[j].2)→
  ((da (qs.map (·.1)) t i).map (fC (Ty.sl T))).flatten=((da qs s i).map (fC (kH α))).flatten
 |[],_,_,_,_=>rfl
 |q::r,s,t,i,h=>by
  have h0:=h 0 (by simp);have ih:=ZA r s t (i+1) λj hj=>by
   have:=h (j+1) (by simpa using hj);rw[show i+1+j=i+(j+1) by omega];simpa using this
  simp only[List.map_cons,da,List.flatten_cons,ih];congr 1;show[Value.slice (t i 0).a q.1.length (t i 0).c]=[Value.slice q.2.a q.1.length q.2.c];rw[show t i 0=q.2 from by simpa using h0]
theorem SH.a5A{k:Int}(hk:0≤k∧k<V.ln qs)(h:SH M X w0 (.nL E T qs::L) w):SH M X w0 (.own E T (gi qs k).1 (gi qs k).2::.nL E T (qs.eraseIdx k.toNat)::L) w:=by
 have Fy:k.toNat<qs.length:=by unfold V.ln at hk;omega
 rw[RR hk];have h1:SH M X w0 (kK E T (qs.eraseIdx k.toNat)++.own E T qs[k.toNat].1 qs[k.toNat].2::L) w:=(SH.unpack h).perm (((Zw Fy).symm.append_right _).trans List.perm_middle.symm);exact(SH.pack (Ls:=kK E T (qs.eraseIdx k.toNat)) h1).perm (List.Perm.swap _ _ _)
theorem SH.a5B{k:Int}(hk:0≤k∧k<V.ln qs){q:List α}{g:Gh}(h:SH M X w0 (.own E T q g::.nL E T (qs.eraseIdx k.toNat)::L) w):SH M X w0 (.nL E T (bO qs k (q,g))::L) w:=by
 have Fy:k.toNat<qs.length:=by unfold V.ln at hk;omega
 have h1:SH M X w0 (kK E T (qs.eraseIdx k.toNat)++.own E T q g::L) w:=SH.unpack (h.perm (List.Perm.swap _ _ _));exact SH.pack (Ls:=kK E T (bO qs k (q,g))) (h1.perm (List.perm_middle.trans ((Zx Fy (q,g)).append_right _)))
theorem SH.a5C{rs:List (Hd α)}{g:Gh}(he:qs.map (λp=>Value.slice p.2.a p.1.length p.2.c)=rs.map λp=>Value.slice p.2.a p.1.length p.2.c)(h:SH M X w0 (.own E (kH α) qs g::L) w):SH M X w0 (.own E (kH α) rs g::L) w:=by
 have hz:∀(l:List (Hd α))(s:Nat→Nat→Gh)(i:Nat),((da l s i).map (fC (kH α))).flatten=l.map λp=>Value.slice p.2.a p.1.length p.2.c:=by
  intro l
  induction l with
  |nil=>intros;rfl
  |cons x r ih=>intro s i;simp only[da,List.map_cons,List.flatten_cons,ih];rfl
 have hl:qs.length=rs.length:=by simpa using congrArg List.length he
 have hn:=h.nd;rw[List.pairwise_cons]at hn;refine⟨h.kp,List.pairwise_cons.2 ⟨λf hf=>hn.1 f hf,hn.2⟩,λb hb=>h.lo b hb,λb hb=>h.nm b hb,h.mx,λe Fm=>?_⟩;rcases List.mem_cons.1 Fm with rfl|Fm
 ·have ho:jY E (kH α) (dO M (.own E (kH α) qs g::L)) w qs g:=h.ow 0 rfl;refine⟨⟨?_,ho.ow.lt,by have:=ho.ow.ln;rw[fX]at this⊢;rw[←hl];exact this⟩,λi hi=>trivial⟩;have hr:=ho.ow.row;rw[fX,hz]at hr⊢;rw[←hl,←he];exact hr
 ·exact h.ps e (List.mem_cons_of_mem _ Fm)
theorem SH.a5D{g:Gh}(h:SH M X w0 (.own E (kH α) qs g::.nL E2 T qs::L) w):SH M X w0 (.own E (Ty.sl T) (qs.map (·.1)) (.mk g.a g.c λi _=>(qs.getD i ([],.nil)).2)::L) w:=by
 have h1:SH M X w0 (.own E (kH α) qs g::(kK E2 T qs++L)) w:=by
  have h2:=SH.unpack (h.perm (List.Perm.swap _ _ _));exact h2.perm List.perm_middle
 have hn:=h1.nd;rw[List.pairwise_cons,List.pairwise_append]at hn;obtain⟨Ay,pW,pX,XV⟩:=hn;have ho:jY E (kH α) (dO M (.own E (kH α) qs g::(kK E2 T qs++L))) w qs g:=h1.ow 0 rfl;have u9:∀{b},b∈ay (a8.own E (Ty.sl T) (qs.map (·.1)) (.mk g.a g.c λi _=>(qs.getD i ([],.nil)).2)::L)→b∈ay (.own E (kH α) qs g::(kK E2 T qs++L)):=λ{b} hb=>by
  simp only[ay,List.mem_append]at hb⊢;rcases hb with hb|hb
  ·exact .inl hb
  ·right;rw[CX];exact List.mem_append_right _ hb
 have ha:∀b,dO M (.own E (Ty.sl T) (qs.map (·.1)) (.mk g.a g.c λi _=>(qs.getD i ([],.nil)).2)::L) b→dO M (.own E (kH α) qs g::(kK E2 T qs++L)) b:=λb hb=>by
  rcases hb with hb|hb
  ·exact .inl hb
  ·exact .inr (u9 hb)
 refine⟨h1.kp,?_,λb hb=>h1.lo b (u9 hb),λb hb=>h1.nm b (u9 hb),h1.mx,λe he=>?_⟩
 ·rw[List.pairwise_cons];exact⟨λf hf=>Ay f (List.mem_append_right _ hf),pX⟩
 ·rcases List.mem_cons.1 he with rfl|he
  ·have hl:(da (qs.map (·.1)) (λi (_:Nat)=>(qs.getD i (([]:List α),Gh.nil)).2) 0).length=(da qs g.s 0).length:=by rw[fX,fX,List.length_map]
   have hf:=ZA (T:=T) qs g.s (λi (_:Nat)=>(qs.getD i (([]:List α),Gh.nil)).2) 0 λj hj=>by
    simp[List.getD_eq_getElem?_getD,List.getElem?_eq_getElem hj]
   refine⟨⟨?_,ho.ow.lt,by rw[show(Gh.mk g.a g.c λi (_:Nat)=>(qs.getD i (([]:List α),Gh.nil)).2).s=λi (_:Nat)=>(qs.getD i (([]:List α),Gh.nil)).2 from rfl,hl];exact ho.ow.ln⟩,λi hi=>?_⟩
   ·have hr:=ho.ow.row;show w.ownsRow 0 E 1 (.slice g.a (da (qs.map (·.1)) (λi (_:Nat)=>(qs.getD i (([]:List α),Gh.nil)).2) 0).length g.c) (da (qs.map (·.1)) (λi (_:Nat)=>(qs.getD i (([]:List α),Gh.nil)).2) 0).length ((da (qs.map (·.1)) (λi (_:Nat)=>(qs.getD i (([]:List α),Gh.nil)).2) 0).map (fC (Ty.sl T))).flatten;rw[hl,hf];exact hr
   ·rw[List.length_map]at hi;have hm:a8.own E2 T qs[i].1 qs[i].2∈kK E2 T qs:=List.mem_map.2 ⟨qs[i],List.getElem_mem hi,rfl⟩;have hq:jY E2 T (dO M (.own E (kH α) qs g::(kK E2 T qs++L))) w qs[i].1 qs[i].2:=h1.ps _ (List.mem_cons_of_mem _ (List.mem_append_left _ hm));have:=hq.sl (M':=dO M (.own E (Ty.sl T) (qs.map (·.1)) (.mk g.a g.c λi _=>(qs.getD i ([],.nil)).2)::L)) (λb hb hx=>?_) ha
    ·show aP T _ w (qs.map (·.1))[i] (qs.getD i ([],.nil)).2;rw[List.getElem_map,List.getD_eq_getElem?_getD,List.getElem?_eq_getElem hi];exact this
    ·rcases hx with hx|hx
     ·exact h1.nm b (jo.2 ⟨_,List.mem_cons_of_mem _ (List.mem_append_left _ hm),hb⟩) hx
     ·simp only[ay,List.mem_append]at hx;rcases hx with hx|hx
      ·exact Ay _ (List.mem_append_left _ hm) b hx hb
      ·obtain⟨f,hf2,ID⟩:=jo.1 hx;exact XV _ hm f hf2 b hb ID
  ·exact e.bU (h1.ps e (List.mem_cons_of_mem _ (List.mem_append_right _ he))) ha
end
section
variable {P:Program} {a:Act} {w:World} {n:Nat} {l:SF} {M:Av}
theorem ZB{α:Type}{T:Ty α}{d:Nat}{s x:Operand}{t ty e e2:TypeId}{pos:String}{after:Array Edge}{zv:Value}{qs:List (Hd α)}{g2:Gh}{n1 n2 c1 c2:Nat}{a1 a2:Option Addr}{l2:List α}{k:Int}(hk:0≤k∧k<ln qs)(q:List α)(hq:(gi qs k).1++l2=q)(H:aw D n l a)(hS:S0 M [.nL e T qs,.own e2 T l2 g2] w)
  (hs:ev l [] s=some (.slice a1 n1 c1))(hx:ev l [] x=some (.slice a2 n2 c2))(ub:(gi qs k).2.a=a1)(pr:(gi qs k).2.c=c1)(CU:g2.a=a2)(pW:(gi qs k).1.length=n1)(pX:l2.length=n2)
  (hu:P.underlying t=some (.slice e))(hi:(P.info? e).map (λi=>(i.size,Nat.ble i.bytes 1024,i.zero))=some (T.z,true,some zv))(pn:zv.cells.size=T.z)(hz:Nat.blt 0 T.z=true)
  (hl:V.ln (gi qs k).1+V.ln l2≤137438953472):
  bh P ⟨some d,.call ⟨.builtin .append,#[s,x],#[t,t]⟩,ty,pos,after,none⟩ a w λv w'=>∃g:Gh,v=.slice g.a q.length g.c∧SH M (ay [.nL e T qs,.own e2 T l2 g2]) w [.nL e T (bO qs k (q,g)),.own e2 T l2 g2] w':=by
 have Fy:k.toNat<qs.length:=by unfold ln at hk;omega
 rw[RR hk]at hq ub pr pW hl;have h1:SH M (ay [.nL e T qs,.own e2 T l2 g2]) w ([.own e T qs[k.toNat].1 qs[k.toNat].2,.own e2 T l2 g2]++kK e T (qs.eraseIdx k.toNat)) w:=by
  refine(SH.unpack (Ls:=kK e T qs) (L:=[.own e2 T l2 g2]) hS).perm ?_;refine((Zw Fy).symm.append_right _).trans ?_;exact(List.perm_append_comm (l₁:=kK e T (qs.eraseIdx k.toNat)) (l₂:=[a8.own e2 T l2 g2])).cons _
 refine(CV (P:=P) (T:=T) (d:=d) (ty:=ty) (pos:=pos) (after:=after) (zv:=zv) (g1:=qs[k.toNat].2) (g2:=g2) (l1:=qs[k.toNat].1) (l2:=l2) q hq H (SH.YL h1) hs hx ub pr CU pW pX hu hi pn hz hl).mono ?_;rintro v w' ⟨g,rfl,yy⟩;refine⟨g,rfl,?_⟩;have h2:=SH.YM h1 yy;refine SH.pack (Ls:=kK e T (bO qs k (q,g))) (L:=[.own e2 T l2 g2]) (h2.perm ?_);refine List.Perm.trans ?_ ((Zx Fy (q,g)).append_right [a8.own e2 T l2 g2]);exact(List.perm_append_comm (l₁:=[a8.own e2 T l2 g2]) (l₂:=kK e T (qs.eraseIdx k.toNat))).cons _
end
end
section
variable {D:List Deferred}
section
variable {P:Program} {a:Act} {w:World} {n:Nat} {l:SF} {M:Av}
theorem ZC{d:Nat}{s:Operand}{t e ty:TypeId}{pos:String}{after:Array Edge}{a1:Option Addr}{n1 c1:Nat}(H:aw D n l a)(hS:S0 M [] w)(hs:ev l [] s=some (.slice a1 n1 c1))(hu:P.underlying t=some (.slice e)):
  bh P ⟨some d,.call ⟨.builtin .cap,#[s],#[t]⟩,ty,pos,after,none⟩ a w λv w'=>v=.int .i64 (c1:Int)∧SH M (ay []) w [] w':=by
 refine bh.o9 (v:=.int .i64 (c1:Int)) (w':=w) ?_ ⟨rfl,SH.step hS (Kp.refl _ _) (by simp) (by simp[ay]) (by intro e he;cases he)⟩;simp[execOp,resolve,invoke,builtin,Builtin.cap_,H.ev (eM a) hs,run_underlying hu,goInt]
theorem a5E{α:Type}{T:Ty α}{d:Nat}{s x:Operand}{t tn ty e:TypeId}{pos:String}{after:Array Edge}{zv:Value}{k:Int}{kn:IntKind}(H:aw D n l a)(hS:S0 M [] w)
  (hs:ev l [] s=some (.slice none 0 0))(hx:ev l [] x=some (.int .i64 k))(hu:P.underlying t=some (.slice e))(hn:P.underlying tn=some (.int kn))(hi:(P.info? e).map (λi=>(i.size,Nat.ble i.bytes 128,i.zero))=some (T.z,true,some zv))(pn:zv.cells.size=T.z)(hz:Nat.blt 0 T.z=true)
  (hk:0<k∧k≤137438953472):
  bh P ⟨some d,.call ⟨.builtin .append,#[s,x],#[t,tn]⟩,ty,pos,after,none⟩ a w λv w'=>∃g:Gh,v=.slice g.a k.toNat g.c∧SH M (ay []) w [.own e T ([]:List α) g] w':=by
 have As:0<T.z:=by simpa[Nat.blt,Nat.lt_iff_add_one_le]using hz
 obtain⟨j,rfl⟩:∃j:Nat,k=j:=⟨k.toNat,by omega⟩;have hj:0<j∧j≤137438953472:=by omega
 cases lY:P.info? e with
 |none=>simp[lY]at hi
 |some inf=>
  simp only[lY,Option.map_some,Option.some.injEq,Prod.mk.injEq]at hi;obtain⟨h1,h2,h3⟩:=hi;have h2:inf.bytes≤128:=by simpa using h2
  have Yt:j*inf.bytes≤140737488355328:=Nat.le_trans (Nat.mul_le_mul hj.2 h2) (by decide);have hr:=Lib.run_append_nil_zeros (P:=P) w t tn ty e inf zv .i64 kn hu hn lY h3 j hj.1 (by omega) (by omega) (by omega);generalize hc:Builtin.zeroCells zv.cells j++Builtin.zeroCells zv.cells (grownCap w j 0 e-j)=cs at hr;have hge:=grownCap_ge w j 0 e;have kF:cs.size=grownCap w j 0 e*T.z:=by
   rw[←hc,Array.size_append,size_zeroCells,size_zeroCells,pn,←Nat.add_mul];congr 1;omega
  have hN:=CN w.drew cs.toList e;have hb:Below w.heap.size w w.drew:=⟨rfl,rfl,rfl,Nat.le_refl _,λ_ _=>rfl⟩;have R4:Kp [] w (w.drew.alloc (.cells cs e)):=by
   refine⟨(hN.1.os).trans hb.os,(hN.1.tape).trans hb.tape,(hN.1.output).trans hb.output,?_,λq hq _=>(hN.1.block q hq (by simp)).trans (hb.block q hq)⟩;exact Nat.le_trans hb.size hN.1.size
  refine bh.o9 (v:=.slice (some ⟨w.heap.size,0,none⟩) j (grownCap w j 0 e)) (w':=w.drew.alloc (.cells cs e)) ?_ ⟨.mk (some ⟨w.heap.size,0,none⟩) (grownCap w j 0 e) (λ_ _=>.nil),rfl,SH.step hS R4 (by simp) (by simp[ay,a8.own,Gh.a,fW]) ?_⟩
  ·simp[execOp,resolve,invoke,builtin,H.ev (eM a) hs,H.ev (eM a) hx,hr]
  ·intro f hf;rw[List.mem_singleton]at hf;subst hf;refine⟨⟨⟨by simp[da],.inr ⟨w.heap.size,grownCap w j 0 e,cs,rfl,Nat.zero_le _,?_,Nat.zero_le _,grownCap_le_maxLen w j 0 e (by unfold maxLen;omega),kF,by simp[da]⟩⟩,?_,by simp[da]⟩,λi hi=>by simp at hi⟩
   ·show(w.heap.push _)[w.heap.size]?=_;simp
   ·intro b hb;simp only[Gh.a,fW,List.mem_singleton]at hb;subst hb;show w.heap.size<(w.heap.push _).size;simp
theorem ZD{d:Nat}{t E ty:TypeId}{x hi:Operand}{pos:String}{after:Array Edge}{n0 c0 z:Nat}{a0:Option Addr}{k:IntKind}{L:List a8}(H:aw D n l a)(hS:S0 M L w)
  (hx:ev l [] x=some (.slice a0 n0 c0))(hh:ev l [] hi=some (.int k 0))(hu:P.underlying t=some (.slice E))(hz:(P.info? E).map (·.size)=some z):
  bh P ⟨some d,.slice t x none (some hi) none,ty,pos,after,none⟩ a w λv w'=>v=.slice a0 0 c0∧SH M (ay L) w L w':=by
 have kF:(sizeOf E).run P w=.ok z w:=nh hz;have hb:(Instr.sliceBounds true n0 c0 none (some (.int k 0)) none).run P w=.ok (0,0,c0) w:=by
  simp[Instr.sliceBounds,Instr.sliceBound,asIntOf]
 have hm:(if c0=0 then a0 else a0.map (·.add 0))=a0:=by
  cases a0 with
  |none=>simp
  |some b=>simp only[Option.map_some];exact ite_self _
 refine bh.o9 (v:=.slice a0 0 c0) (w':=w) ?_ ⟨rfl,hS⟩;simp[execOp,H.ev (eM a) hx,H.ev (eM a) hh,Instr.sliceAt,run_underlying hu,Instr.slice,hb,kF,hm]
end
section
variable {P:Program} {ops:Array Oper} {Q:Exit→Act→World→Prop} {fuel i j:Nat} {o o2:Oper} {listed:Array Bool} {a:Act} {w:World}
theorem RS{K:Value→World→Prop}(ho:ops[i]?=some o)(hg:o.guard=none)(hs:bh P o a w K)(hK:∀v w',K v w'→wpAny P .any ops Q fuel (listed.setIfInBounds i true) (a.put o.dst v) w'):wpOp P ops Q i (wpAny P .any ops Q fuel (listed.setIfInBounds i true)) a w:=by
 unfold wpOp;rw[ho];have hw:Region.wanted o (yielded ops a.tmps)=true:=by simp[Region.wanted,hg]
 simp only[hw,if_true];exact .inl (hs _ _ hK)
theorem MP{K:Value→World→Prop}(hr:Region.ready .any ops listed=[i])(ho:ops[i]?=some o)(hg:o.guard=none)(hs:bh P o a w K)(hK:∀v w',K v w'→wpAny P .any ops Q fuel (listed.setIfInBounds i true) (a.put o.dst v) w'):wpAny P .any ops Q (fuel+1) listed a w:=by
 refine⟨λh=>(by rw[hr]at h;cases h),λk hk=>?_⟩;rw[hr,List.mem_singleton]at hk;subst hk;exact RS ho hg hs hK
theorem a5F{K K2:Value→World→Prop}(hr:Region.ready .any ops listed=[i,j])(ho:ops[i]?=some o)(hg:o.guard=none)(MQ:ops[j]?=some o2)(hg2:o2.guard=none)(hs:bh P o a w K)(yd:bh P o2 a w K2)
  (hK:∀v w',K v w'→wpAny P .any ops Q fuel (listed.setIfInBounds i true) (a.put o.dst v) w')(hK2:∀v w',K2 v w'→wpAny P .any ops Q fuel (listed.setIfInBounds j true) (a.put o2.dst v) w'):wpAny P .any ops Q (fuel+1) listed a w:=by
 refine⟨λh=>(by rw[hr]at h;cases h),λk hk=>?_⟩;rw[hr]at hk;rcases List.mem_cons.1 hk with rfl|hk
 ·exact RS ho hg hs hK
 ·rw[List.mem_singleton]at hk;subst hk;exact RS MQ hg2 yd hK2
end
theorem a5G{n:Nat}{M:Av}{X:List Nat}{w0:World}{l:SF}{N R:dV}{ES:List (Nat×dV)}{P:Program}{id d e:Nat}{E y0 y1 y2 y3:TypeId}{p0 p1 p2 p3:String}{a0 a1 a2 a3:Array Edge}{z:Code}{e1 e2 e3:a8}(ks:List Nat)(vs:List Value)
  (h:∀c:Bool,T D n M X w0 ((e,[],.bool c)::fz ks vs) [e1,e2,e3] λa w=>z.wp P (Qs N ES R) a w)
  (hk:∀u v,aQ (nG (nG l d [] u) e [] v) (e::ks)=some ((e,[],v)::fz ks vs):=by exact λ_ _=>rfl)
  (hd:Nat.blt d n=true:=by rfl)(he:Nat.blt e n=true:=by rfl)(hx:∀u,ev (nG l d [] u) [] (.tmp d)=some u:=by exact λ_=>rfl)(ht:∀u c,ev (nG l d [] u) [] (.const (.bool c))=some (.bool c):=by exact λ_ _=>rfl)
  (hz:(P.info? E).map (·.zero)=some (some (.bool false)):=by kernel_rfl)(kF:(P.info? E).map (·.size)=some 1:=by kernel_rfl)(hm:P.follows .mixedOrders=true:=by kernel_rfl)
  (hl:∀b c,Ap P (nG l d [] (.pointer (some ⟨b,0,none⟩))) [] (.load E (.tmp d)) [.bool c]=some ⟨.bool c,[],some (V.c9 ⟨b,0,none⟩ (.bool c))⟩:=by intros;kernel_rfl)
  (r0:Region.ready .any #[⟨some d,.alloc E,y0,p0,a0,none⟩,⟨none,.store E (.tmp d) (.const (.bool true)),y1,p1,a1,none⟩,⟨none,.store E (.tmp d) (.const (.bool false)),y2,p2,a2,none⟩,⟨some e,.load E (.tmp d),y3,p3,a3,none⟩] #[false,false,false,false]=[0]:=by kernel_rfl)
  (r1:Region.ready .any #[⟨some d,.alloc E,y0,p0,a0,none⟩,⟨none,.store E (.tmp d) (.const (.bool true)),y1,p1,a1,none⟩,⟨none,.store E (.tmp d) (.const (.bool false)),y2,p2,a2,none⟩,⟨some e,.load E (.tmp d),y3,p3,a3,none⟩] #[true,false,false,false]=[1,2]:=by kernel_rfl)
  (r2:Region.ready .any #[⟨some d,.alloc E,y0,p0,a0,none⟩,⟨none,.store E (.tmp d) (.const (.bool true)),y1,p1,a1,none⟩,⟨none,.store E (.tmp d) (.const (.bool false)),y2,p2,a2,none⟩,⟨some e,.load E (.tmp d),y3,p3,a3,none⟩] #[true,true,false,false]=[2]:=by kernel_rfl)
  (r3:Region.ready .any #[⟨some d,.alloc E,y0,p0,a0,none⟩,⟨none,.store E (.tmp d) (.const (.bool true)),y1,p1,a1,none⟩,⟨none,.store E (.tmp d) (.const (.bool false)),y2,p2,a2,none⟩,⟨some e,.load E (.tmp d),y3,p3,a3,none⟩] #[true,false,true,false]=[1]:=by kernel_rfl)
  (r4:Region.ready .any #[⟨some d,.alloc E,y0,p0,a0,none⟩,⟨none,.store E (.tmp d) (.const (.bool true)),y1,p1,a1,none⟩,⟨none,.store E (.tmp d) (.const (.bool false)),y2,p2,a2,none⟩,⟨some e,.load E (.tmp d),y3,p3,a3,none⟩] #[true,true,true,false]=[3]:=by kernel_rfl)
  (r5:Region.ready .any #[⟨some d,.alloc E,y0,p0,a0,none⟩,⟨none,.store E (.tmp d) (.const (.bool true)),y1,p1,a1,none⟩,⟨none,.store E (.tmp d) (.const (.bool false)),y2,p2,a2,none⟩,⟨some e,.load E (.tmp d),y3,p3,a3,none⟩] #[true,true,true,true]=[]:=by kernel_rfl):
  T D n M X w0 l [e1,e2,e3] λa w=>(Code.seq (.region id #[⟨some d,.alloc E,y0,p0,a0,none⟩,⟨none,.store E (.tmp d) (.const (.bool true)),y1,p1,a1,none⟩,⟨none,.store E (.tmp d) (.const (.bool false)),y2,p2,a2,none⟩,⟨some e,.load E (.tmp d),y3,p3,a3,none⟩] true) z).wp P (Qs N ES R) a w:=by
 intro a w H hS;refine Aq (wp_region_any hm ?_);replace hS:=hS.below (⟨rfl,rfl,rfl,Nat.le_refl _,λ_ _=>rfl⟩:Below w.heap.size w {w with drawn:=w.drawn+1});generalize{w with drawn:=w.drawn+1}=w2 at hS⊢;refine MP (fuel:=3) r0 rfl rfl (ua [.bool false] (z:=.bool false) (hS.hand [] [0,1,2] rfl rfl) hz rfl) ?_;rintro _ w3 ⟨b,rfl,hq⟩;have MR:=hS.join [] [0,1,2] rfl rfl hq;have H1:=aw.set (H:=H) (v:=.pointer (some ⟨b,0,none⟩)) hd;clear hq hS H;have fin:∀(c:Bool)(a':Act)(w4:World),aw D n (nG l d [] (.pointer (some ⟨b,0,none⟩))) a'→SH M X w0 ([.lJ b [.bool c]]++dS [e1,e2,e3] [0,1,2]) w4→wpAny P .any #[⟨some d,.alloc E,y0,p0,a0,none⟩,⟨none,.store E (.tmp d) (.const (.bool true)),y1,p1,a1,none⟩,⟨none,.store E (.tmp d) (.const (.bool false)),y2,p2,a2,none⟩,⟨some e,.load E (.tmp d),y3,p3,a3,none⟩] (Qs (λa w=>z.wp P (Qs N ES R) a w) ES R) 1 #[true,true,true,false] a' w4:=by
  intro c a' w4 H hS;refine MP (fuel:=0) r4 rfl rfl (oc [.bool c] (.bool c) (some (V.c9 ⟨b,0,none⟩ (.bool c))) [] H rfl (hl b c) (λq e=>by cases e;exact(hS.bk 0 rfl).c9 rfl)) ?_;rintro _ w5 ⟨rfl,hq⟩;exact⟨r5,h c _ _ ((aw.set (H:=H) he).aQ (hk _ _)) ((hS.below hq.below).aV [1,2,3] rfl)⟩
 refine a5F (fuel:=2) (i:=1) (j:=2) r1 rfl rfl rfl rfl (qe [.bool true] H1 (MR.hand [0] [1,2,3] rfl rfl) (hx _) (ht _ _) kF rfl rfl rfl) (qe [.bool false] H1 (MR.hand [0] [1,2,3] rfl rfl) (hx _) (ht _ _) kF rfl rfl rfl) ?_ ?_
 ·rintro _ w4 hq;have vC:=MR.join [0] [1,2,3] rfl rfl hq;refine MP (fuel:=1) r2 rfl rfl (qe [.bool false] H1 (vC.hand [0] [1,2,3] rfl rfl) (hx _) (ht _ _) kF rfl rfl rfl) ?_;rintro _ w5 yy;exact fin false _ _ H1 (vC.join [0] [1,2,3] rfl rfl yy)
 ·rintro _ w4 hq;have vC:=MR.join [0] [1,2,3] rfl rfl hq;refine MP (fuel:=1) r3 rfl rfl (qe [.bool true] H1 (vC.hand [0] [1,2,3] rfl rfl) (hx _) (ht _ _) kF rfl rfl rfl) ?_;rintro _ w5 yy;exact fin true _ _ H1 (vC.join [0] [1,2,3] rfl rfl yy)
end
theorem ZE{w:World}{b:Nat}{o:Obj}(h:w.heap[b]?=some o):b<w.heap.size:=by
 rcases Nat.lt_or_ge b w.heap.size with h'|h'
 ·exact h'
 ·rw[Array.getElem?_eq_none h']at h;cases h
theorem SH.gone{M:Av}{L:List a8}{w w':World}(h:S0 M L w)(k:Kp (ay L) w w'):SH M (ay L) w [] w':=SH.step h k (by simp) (by simp[ay]) (by simp)
def a8.aU(g:Nat)(cs:List Value):a8 where
 fp:=[]
 p:=λM w=>(∃T fr,w.heap[g]?=some (.cells ⟨cs⟩ T fr))∧¬M g
 kp:=λh k hM _=>⟨by obtain⟨⟨T,fr,h1⟩,h2⟩:=h;exact⟨T,fr,(k.block _ (ZE h1) (λhx=>h2 (hM _ hx))).trans h1⟩,h.2⟩
 bU:=λh hM=>⟨h.1,λhb=>h.2 (hM _ hb)⟩
 fresh:=λh=>⟨h.1,λhb=>by
  obtain⟨⟨T,fr,h1⟩,h2⟩:=h;rcases hb with hb|hb
  ·exact h2 hb
  ·have:=ZE h1;omega⟩
 lt:=λ_ b hb=>by cases hb
def me:Nat→Nat→a6
 |0,_=>[]
 |k+1,u=>cond (Nat.blt u 10) [UInt8.ofNat (48+u)] (me k (u/10)++[UInt8.ofNat (48+u%10)])
def IR(n:Int):a6:=cond (decide (n<0)) (45::me 20 n.natAbs) (me 20 n.toNat)
theorem a5H{u:Nat}(h:¬u<10):Nat.blt u 10=false:=by
 cases hb:Nat.blt u 10 with
 |false=>rfl
 |true=>exact absurd (by simpa[Nat.blt,Nat.lt_iff_add_one_le]using hb) h
theorem RT:∀(k u:Nat),u<10^(k+1)→me (k+1) u=Lib.decDigits u
 |0,u,h=>by
  have h:u<10:=by simpa using h
  rw[Lib.decDigits,dif_pos h,me,show Nat.blt u 10=true from by simpa[Nat.blt,Nat.lt_iff_add_one_le]using h];rfl
 |k+1,u,h=>by
  by_cases hu:u<10
  ·rw[Lib.decDigits,dif_pos hu,me,show Nat.blt u 10=true from by simpa[Nat.blt,Nat.lt_iff_add_one_le]using hu];rfl
  ·rw[Lib.decDigits,dif_neg hu,me,a5H hu];rw[show(cond false [UInt8.ofNat (48+u)] (me (k+1) (u/10)++[UInt8.ofNat (48+u%10)]))=me (k+1) (u/10)++[UInt8.ofNat (48+u%10)]from rfl,
    RT k (u/10) (by rw[Nat.pow_succ]at h;omega)]
theorem a5I{n:Int}(h:-9223372036854775808≤n∧n≤9223372036854775807):IR n=Lib.itoa n:=by
 unfold IR Lib.itoa;by_cases hn:n<0
 ·rw[if_pos hn,show decide (n<0)=true from by simpa using hn,RT 19 n.natAbs (by omega)];rfl
 ·rw[if_neg hn,show decide (n<0)=false from by simpa using hn,RT 19 n.toNat (by omega)];rfl
theorem a5J(w:World)(k:Nat)(os:Array Obj)(X:List Nat):Kp X w (Go.Sort.grow (w.drewN k) os):=
 ⟨rfl,rfl,rfl,by simp[Go.Sort.grow,World.drewN],λi hi _=>by
  show((w.drewN k).heap++os)[i]?=_;rw[Array.getElem?_append_left (by show i<w.heap.size;omega)];rfl⟩
theorem l8{w:World}{L:List a8}(h:S0 F0 L w∧ay L=[]){g:Nat}{cs:List Value}{M:Av}(hs:(a8.aU g cs).p M w):S0 F0 (.aU g cs::L) w∧ay (.aU g cs::L)=[]:=by
 have he:ay (.aU g cs::L)=[]:=by simp[ay,a8.aU,h.2]
 refine⟨?_,he⟩;have yd:SH F0 (ay L) w (.aU g cs::L) w:=h.1.add rfl ⟨hs.1,λhm=>by
  rcases hm with hm|hm
  ·exact hm
  ·rw[h.2]at hm;cases hm⟩
 rw[h.2]at yd;show SH F0 (ay (.aU g cs::L)) w _ w;rw[he];exact yd
end Go.V
namespace Go.Proofs.YtlgligdlpbggaaaGreatDoor
open Go.V Go.RowKit
theorem a5K{w:World}{M:Av}(h:(a8.aU 0 (Lib.pow10Tab.map λz=>Value.int .u64 z)).p M w):Lib.TabIs Tryz.prog w "internal/strconv.uint64pow10" .u64 Lib.pow10Tab:=by
 obtain⟨⟨T,fr,h1⟩,_⟩:=h;unfold Lib.TabIs World.var?;rw[show Tryz.prog.globalNamed "internal/strconv.uint64pow10" =some 0 from by kernel_rfl,Option.bind_some,h1]
def AG(n:Int):Option a6:=aH (-9223372036854775808≤n∧n≤9223372036854775807) (some (IR n))
theorem ZF(n:Int)(r:a6)(hm:AG n=some r)(w:World)(hL:S0 F0 [a8.aU 0 (Lib.pow10Tab.map λz=>Value.int .u64 z)] w∧ay [a8.aU 0 (Lib.pow10Tab.map λz=>Value.int .u64 z)]=[]):
  kD Tryz.prog 29 ⟨[.int .i64 n]⟩ (.string ⟨⟨r⟩⟩) w:=by
 obtain⟨h,hm⟩:=bX hm;obtain rfl:=cA hm;refine ik (L:=[a8.aU 0 (Lib.pow10Tab.map λz=>Value.int .u64 z)]) hL (Tryz.call29 _) λw' hS=>?_;rw[a5I h];refine(Tryz.strconv_Itoa n h.1 h.2 w' (a5K (hS.at 0 rfl))).mono ?_;rintro e w2 ⟨rfl,k,os,rfl⟩;refine⟨_,rfl,rfl,?_⟩;exact SH.gone hS (a5J w' k os _)
end Go.Proofs.YtlgligdlpbggaaaGreatDoor
namespace Go.V
open Go Go.RowKit
theorem a5L{P:Program}{W:World}{name:String}{g:Nat}{cs:Array Value}(hg:P.globalNamed name=some g)(h:W.var? P name=some cs):∃T fr,W.heap[g]?=some (.cells cs T fr):=by
 unfold World.var? at h;rw[hg,Option.bind_some]at h;split at h
 ·rename_i CT T fr he;exact⟨T,fr,by rw[he,Option.some.inj h]⟩
 ·cases h
theorem a5M{P:Program}{W:World}{name:String}{k:IntKind}{zs:List Int}{g:Nat}{t e:TypeId}{n:Nat}
  (hg:P.globalNamed name=some g)(Ru:(P.globals[g]?).map (·.type)=some t)(ht:P.underlying t=some (.array n e))(he:P.underlying e=some (.int k))(Il:P.cellsOf e=1)(Rv:P.cellsOf t=n)
  (h:Lib.VarReads P W name (Lib.tabData k zs)):(a8.aU g (zs.map λz=>Value.int k z)).p F0 W:=by
 obtain⟨g',t',cs,fuel,p,xa,Rx,Ry,hd⟩:=h;obtain rfl:=Option.some.inj (hg.symm.trans xa);obtain rfl:=Option.some.inj (Ru.symm.trans Rx);have hc:=Lib.cells_of_tab ht he Il Rv hd;obtain⟨T,fr,hh⟩:=a5L hg Ry;refine⟨⟨T,fr,?_⟩,λh=>h⟩;obtain⟨l⟩:=cs;have hc:l=zs.map λz=>Value.int k z:=hc;rw[hh,hc]
end Go.V
namespace Go.V
open Go
theorem nn{x:Int}(h:-9223372036854775808≤x)(h':x<9223372036854775808):J x=x:=by
 show IntKind.i64.wrap x=x;unfold IntKind.wrap;simp only[IntKind.bits,IntKind.signed,Bool.true_and];split<;>rename_i hh<;>simp only[ge_iff_le,decide_eq_true_eq]at hh<;>omega
theorem l9{α:Type}[Inhabited α](l:List α)(i:Nat)(h:i<l.length):gi l (i:Int)=l[i]:=by
 simp[gi,List.getD_eq_getElem?_getD,List.getElem?_eq_getElem h]
theorem a5N(s:a6)(i:Nat)(h:i<s.length):bQ s (i:Int)=(s[i].toNat:Int):=by
 simp[bQ,List.getD_eq_getElem?_getD,List.getElem?_eq_getElem h]
theorem a5O(x:Int):cF x=x%18446744073709551616:=by
 show IntKind.u64.wrap x=_;simp[IntKind.wrap,IntKind.bits,IntKind.signed]
theorem AH{x:Int}(h:0≤x)(h':x<18446744073709551616):cF x=x:=by rw[a5O];exact Int.emod_eq_of_lt h h'
theorem ZG(x:Int):cU x=x%256:=by
 show IntKind.u8.wrap x=_;simp[IntKind.wrap,IntKind.bits,IntKind.signed]
theorem a5P{x:Int}(h:0≤x)(h':x<256):cU x=x:=by rw[ZG];exact Int.emod_eq_of_lt h h'
theorem jP{α:Type}{l:List α}{i:Nat}(h:i<l.length):decide ((i:Int)<ln l)=true:=by simp[ln,h]
theorem iQ{α:Type}{l:List α}{i:Nat}(h:l.length≤i):decide ((i:Int)<ln l)=false:=by simp[ln];omega
theorem gV{α β:Type}{l:List α}{i:Nat}{k:Option β}(h:i<l.length):aH (0≤(i:Int)∧(i:Int)<ln l) k=k:=by
 unfold aH;rw[if_pos ⟨by omega,by unfold ln;omega⟩]
theorem bS{β:Type}{p:Prop}[Decidable p]{k:Option β}(h:p):aH p k=k:=by unfold aH;rw[if_pos h]
theorem cq{i:Nat}(h:i<4611686018427387904):J ((i:Int)+1)=((i+1:Nat):Int):=by rw[nn (by omega) (by omega)];rfl
theorem lt_eq{α β:Type}(e:α)(f:α→β):lt e f=f e:=rfl
theorem aW{α β:Type}(a:α)(f:α→Option β):Option.bind (some a) f=f a:=rfl
theorem be{α:Sort _}(a b:α):cond false a b=b:=rfl
theorem bo{α:Sort _}(a b:α):cond true a b=a:=rfl
theorem rW{α:Type}[BEq α][LawfulBEq α]{a b:α}:(a==b)=false↔a≠b:=beq_eq_false_iff_ne
theorem dt{p:Prop}[Decidable p](h:¬p):decide p=false:=decide_eq_false h
theorem ew{p:Prop}[Decidable p](h:p):decide p=true:=decide_eq_true h
theorem fD{α:Type}{a:α}{l:List α}:(a::l).length=l.length+1:=rfl
theorem fR{α:Type}{a b:List α}:(a++b).length=a.length+b.length:=List.length_append
theorem il{α:Type}:([]:List α).length=0:=rfl
theorem rX{α:Type}{i:Nat}{l:List α}(h:i<l.length):l.drop i=l[i]::l.drop (i+1):=List.drop_eq_getElem_cons h
theorem IU{α:Type}{l:List α}{i:Nat}(h:l.length≤i):l.drop i=[]:=List.drop_eq_nil_of_le h
theorem pw{α:Type}{l:List α}:l.drop 0=l:=rfl
theorem dc(n:Nat):n≤n:=Nat.le_refl n
theorem px:(!true)=false:=rfl
theorem ul:(!false)=true:=rfl
theorem iW(n:Nat):0≤n:=Nat.zero_le n
theorem yz{p:Prop}[Decidable p](h:decide p=true):p:=of_decide_eq_true h
theorem yA{α:Type}(a b c:List α):a++b++c=a++(b++c):=List.append_assoc a b c
theorem a5Q{α:Type}{l:List α}(h:l.length=0):l=[]:=List.eq_nil_of_length_eq_zero h
theorem a5R(b:Bool):(true&&b)=b:=rfl
theorem aip(b:Bool):(b&&true)=b:=Bool.and_true b
theorem IV(b:Bool):(false||b)=b:=rfl
theorem ZH:∀{x y:Bool},(x||y)=false↔x=false∧y=false:=Bool.or_eq_false_iff
end Go.V
