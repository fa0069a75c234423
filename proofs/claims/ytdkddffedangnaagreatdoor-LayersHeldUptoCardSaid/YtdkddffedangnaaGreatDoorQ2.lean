/-
 'append' onto a slice that is read and has no room: a new row. A thing of the call's own that is lent. Nothing here is a statement of this claim.
-/
import Derived.Test.YtdkddffedangnaaGreatDoorQ1
import Derived.ArgAppend
import Derived.Laws.IdiomCopy
import Derived.DataReads
import Derived.ChangeOld
import Derived.ChangeArms
import Derived.Lib.LaidU8
import Derived.StillTail
import Derived.WideMake
import Derived.MapKept
import Derived.Lib.AppendZeros
import Derived.Test.YtdkddffedangnaaGreatDoorRows
import Derived.Test.YtdkddffedangnaaGreatDoorSh
import Derived.Lib.Mul64
set_option linter.unusedVariables false
set_option maxRecDepth 20000
set_option maxHeartbeats 4000000
namespace Go.V
open Go Go.RowKit
section
variable {P:Program} {a:Act} {w:World} {n:Nat} {l:SF} {M:Av} {D:List Deferred}
end
section
variable {M:Av} {X:List Nat} {w0 w w':World} {L R:List aB}
theorem SH.a77{α:Type}{E:TypeId}{T:Ty α}{l:List α}{g:Gh}(h:SH M X w0 (.own E T l g::L) w):S0 (ep M L) [.im T l g] w:=by
 have h2:=h.gz;have hf:∀b,b∉aD [aB.im T l g]:=λb hb=>by simp[aD,aB.im]at hb
 refine⟨Kp.refl _ _,by simp,λb hb=>absurd hb (hf b),λb hb=>absurd hb (hf b),λb hm=>?_,λe he=>?_⟩
 ·rcases hm with hm|hm
  ·exact Nat.lt_of_lt_of_le (h.mx b hm) h.kp.size
  ·obtain⟨e,he,hb⟩:=jT.1 hm;exact e.lt (h.ps e (List.mem_cons_of_mem _ he)) b hb
 ·rw[List.mem_singleton]at he;subst he;refine(aB.im T l g).bW (h2.ps _ List.mem_cons_self) λb hb=>?_;rcases hb with(hb|hb)|hb
  ·exact .inl hb
  ·exact .inr (by simp only[aD,List.mem_append];exact .inr hb)
  ·exact absurd hb (hf b)
theorem SH.a78{α:Type}{E:TypeId}{T:Ty α}{l:List α}{g:Gh}(h:SH M X w0 (.own E T l g::L) w)(h2:SH (ep M L) (aD [.im T l g]) w R w')(hR:∀e∈R,∀M M' w,e.p M w→e.p M' w):SH M X w0 (R++.own E T l g::L) w':=by
 have hx:aD [aB.im T l g]=[]:=rfl;have hk:Kp [] w w':=hx▸h2.kp;have kL:∀{b:Nat},b∈aD (aB.own E T l g::L)→b<w.heap.size:=λhb=>by
  obtain⟨e,he,hb⟩:=jT.1 hb;exact e.lt (h.ps e he) _ hb
 have xl:∀{b:Nat},b∈aD R→w.heap.size≤b:=λhb=>by
  rcases h2.lo _ hb with h1|h1
  ·exact h1
  ·rw[hx]at h1;cases h1
 have jo:∀{b:Nat},b∈aD (R++.own E T l g::L)→b∈aD R∨b∈aD (aB.own E T l g::L):=λhb=>by
  obtain⟨e,he,hb⟩:=jT.1 hb;rcases List.mem_append.1 he with he|he
  ·exact .inl (jT.2 ⟨e,he,hb⟩)
  ·exact .inr (jT.2 ⟨e,he,hb⟩)
 refine⟨h.kp.trans hk (λy hy=>by cases hy),?_,λb hb=>?_,λb hb=>?_,h.mx,λe he=>?_⟩
 ·rw[List.pairwise_append];refine⟨h2.nd,h.nd,λe he f hf y hy A0=>?_⟩;have h3:=xl (jT.2 ⟨e,he,hy⟩);have h4:=kL (jT.2 ⟨f,hf,A0⟩);omega
 ·rcases jo hb with hb|hb
  ·exact .inl (Nat.le_trans h.kp.size (xl hb))
  ·exact h.lo b hb
 ·rcases jo hb with hb|hb
  ·exact λhm=>h2.nm b hb (.inl hm)
  ·exact h.nm b hb
 ·rcases List.mem_append.1 he with he|he
  ·exact hR e he _ _ _ (h2.ps e he)
  ·have hp:=e.fresh (h.ps e he);refine e.bW (e.kp hp hk (λb hb=>by cases hb) (λb hb zZ=>by cases zZ)) λb hb=>?_;rcases hb with hb|hb
   ·exact .inl (.inl hb)
   ·rcases jo hb with hb|hb
    ·exact .inr (xl hb)
    ·exact .inl (.inr hb)
theorem a79{α:Type}{E:TypeId}{T:Ty α}(hT:∀M M' w x g,T.bP M w x g→T.bP M' w x g)(l:List α)(g:Gh):∀M M' w,(aB.own E T l g).p M w→(aB.own E T l g).p M' w:=λ_ _ _ h=>⟨h.ow,λi hi=>hT _ _ _ _ _ (h.bP i hi)⟩
theorem a7a{e:aB}(h:∀M M' w,e.p M w→e.p M' w):∀e'∈[e],∀M M' w,e'.p M w→e'.p M' w:=λe' he=>by
 rw[List.mem_singleton]at he;subst he;exact h
end
section
variable {P:Program} {a:Act} {w:World} {n:Nat} {l:SF} {M:Av} {D:List Deferred}
end
section
variable {P:Program} {a:Act} {w:World} {n:Nat} {l:SF} {M:Av} {D:List Deferred}
theorem a7b{α:Type}{T:Ty α}{d:Nat}{t E ty:TypeId}{x lo hi mx:Operand}{pos:String}{after:Array Edge}{g:Gh}{q:List α}{n0 c0:Nat}{a0:Option Addr}{L:List aB}{k k2 k3:IntKind}(i j:Int)(H:aj D n l a)(hS:S0 M L w)(hs:aM T (ep M L) w q g)
  (hx:ev l [] x=some (.slice a0 n0 c0))(ha:g.a=a0)(hc:g.c=c0)(hn:q.length=n0)(xl:ev l [] lo=some (.int k3 i))(DV:ev l [] hi=some (.int k j))(hmx:ev l [] mx=some (.int k2 j))
  (hu:P.underlying t=some (.slice E))(hz:(P.info? E).map (·.size)=some T.z)(dP:0≤i∧i≤j∧j≤ln q):
  bg P ⟨some d,.slice t x (some lo) (some hi) (some mx),ty,pos,after,none⟩ a w λv w'=>∃g':Gh,v=.slice g'.a (gf q i j).length (gf q i j).length∧SH M (aD L) w (.im T (gf q i j) (.mk g'.a (gf q i j).length g'.s)::L) w':=by
 subst ha hc hn;have hlen:(gf q i j).length=j.toNat-i.toNat:=yI q dP;have lH:(sizeOf E).run P w=.ok T.z w:=ot hz;have hlc:=hs.1.cp;have hj:j.toNat≤g.c:=by unfold ln at dP;omega
 have zU:aM T (ep M L) w (gf q i j) (.mk (if j.toNat-i.toNat=0 then g.a else g.a.map (·.add (i.toNat*T.z))) (j.toNat-i.toNat) (λk=>g.s (i.toNat+k))):=by
  rcases Nat.eq_zero_or_pos (gf q i j).length with h0|h0
  ·have:=List.eq_nil_of_length_eq_zero h0;rw[this];exact aM.nil
  ·rw[hlen]at h0;have h1:=hs.sub dP;rw[if_neg (show¬g.c=i.toNat by omega)]at h1;rw[if_neg (show¬j.toNat-i.toNat=0 by omega)];exact⟨⟨h1.1.ok,h1.1.lt,h1.1.av,h1.1.get,by rw[hlen];exact Nat.le_refl _⟩,h1.2⟩
 refine bg.pr (v:=.slice (if j.toNat-i.toNat=0 then g.a else g.a.map (·.add (i.toNat*T.z))) (j.toNat-i.toNat) (j.toNat-i.toNat)) (w':=w) ?_ ⟨.mk (if j.toNat-i.toNat=0 then g.a else g.a.map (·.add (i.toNat*T.z))) (j.toNat-i.toNat) (λk=>g.s (i.toNat+k)),?_,?_⟩
 ·have hb:(Instr.sliceBounds true q.length g.c (some (.int k3 i)) (some (.int k j)) (some (.int k2 j))).run P w=.ok (i.toNat,j.toNat,j.toNat) w:=by
   have q1:j≤(g.c:Int):=by omega
   have q2:0≤j:=by omega
   have q3:j≤max j 0:=by omega
   have q4:i≤max j 0:=by omega
   have q5:=dP.1;simp[Instr.sliceBounds,Instr.sliceBound,asIntOf,q1,q2,q3,q4,q5]
  have oZ:(if j.toNat=i.toNat then g.a else g.a.map (·.add (i.toNat*T.z)))=(if j.toNat-i.toNat=0 then g.a else g.a.map (·.add (i.toNat*T.z))):=by
   by_cases he:j.toNat=i.toNat
   ·rw[if_pos he,if_pos (by omega)]
   ·rw[if_neg he,if_neg (by omega)]
  rw[←oZ];simp only[execOp,H.ev (fw a) hx,Instr.sliceAt,Sem.run_bind,run_underlying hu,Result.andThen_ok,Option.map_some,H.ev (fw a) xl,H.ev (fw a) DV,H.ev (fw a) hmx,Instr.slice,hb,lH,Sem.run_pure]
 ·rw[hlen];rfl
 ·rw[hlen];exact hS.eF zU
end
theorem aM.nl{α:Type}{T:Ty α}{M:Av}{w:World}{l:List α}{g:Gh}(h:aM T M w l g)(hn:g.a=none):l=[]:=by
 cases l with
 |nil=>rfl
 |cons x r=>
  have:=h.1.ok (by simp);unfold eg at this;rw[hn]at this;cases this
section
variable {D:List Deferred}
def xr(a:Option Addr)(c i z:Nat):Option Addr:=if c=i then a else a.map (·.add (i*z))
theorem add_zero'(x:Addr):x.add 0=x:=by unfold Addr.add;split<;>simp_all
theorem a7c(a:Option Addr)(c z:Nat):a=xr a c 0 z:=by
 unfold xr;split
 ·rfl
 ·cases a with
  |none=>rfl
  |some x=>simp[add_zero']
section
variable {P:Program} {a:Act} {w:World} {n:Nat} {l:SF} {M:Av}
theorem a0v{α:Type}{T:Ty α}{d:Nat}{t E ty e:TypeId}{x:Operand}{lo hi:Option Operand}{pos:String}{after:Array Edge}{g:Gh}{q:List α}{n0 c0:Nat}{a0:Option Addr}(i j:Int)(tl lI:Option Value)(H:aj D n l a)(hS:S0 M [.own e T q g] w)
  (hx:ev l [] x=some (.slice a0 n0 c0))(ha:g.a=a0)(hc:g.c=c0)(hn:q.length=n0)(xl:qk l [] lo=some tl)(DV:qk l [] hi=some lI)
  (h1:(tl=none∧i=0)∨∃k,tl=some (.int k i))(h2:(lI=none∧j=ln q)∨∃k,lI=some (.int k j))
  (hu:P.underlying t=some (.slice E))(hz:(P.info? E).map (·.size)=some T.z)(dP:0≤i∧i≤j∧j≤ln q):
  bg P ⟨some d,.slice t x lo hi none,ty,pos,after,none⟩ a w λv w'=>v=.slice (xr g.a g.c i.toNat T.z) (j.toNat-i.toNat) (g.c-i.toNat)∧SH M (aD [.own e T q g]) w [.own e T q g] w':=by
 subst ha hc hn;have Ko:∀(y:Option Operand) v,qk l [] y=some v→y.map a.eval=v:=by
  intro y v hy;cases y with
  |none=>simp only[qk,Option.some.injEq]at hy;subst hy;rfl
  |some z=>
   simp only[qk]at hy;split at hy
   ·rename_i u hu;simp only[Option.some.injEq]at hy;subst hy;simp[H.ev (fw a) hu]
   ·cases hy
 have hlc:=(hS.ow 0 rfl).cp;have lH:(sizeOf E).run P w=.ok T.z w:=ot hz;refine bg.pr (v:=.slice (xr g.a g.c i.toNat T.z) (j.toNat-i.toNat) (g.c-i.toNat)) (w':=w) ?_ ⟨rfl,hS⟩;have hb:(Instr.sliceBounds true q.length g.c tl lI none).run P w=.ok (i.toNat,j.toNat,g.c) w:=by
  have hj:j.toNat≤q.length:=by unfold ln at dP;omega
  have q1:i.toNat≤j.toNat:=by omega
  have q2:j.toNat≤g.c:=by omega
  have q0:=dP.1;have q5:(j:Int)≤(g.c:Int):=by omega
  have q6:0≤j:=by omega
  have q7:=dP.2.1;rcases h2 with⟨rfl,rfl⟩|⟨k',rfl⟩<;>rcases h1 with⟨rfl,rfl⟩|⟨k,rfl⟩
  ·simp[Instr.sliceBounds,ln]
  ·have:i≤(q.length:Int):=dP.2.1;simp[Instr.sliceBounds,Instr.sliceBound,asIntOf,dP.1,this,ln]
  ·simp[Instr.sliceBounds,Instr.sliceBound,asIntOf,q5,q6]
  ·have q8:i≤max j 0:=by omega
   simp[Instr.sliceBounds,Instr.sliceBound,asIntOf,q5,q6,q0,q8]
 simp only[execOp,H.ev (fw a) hx,Instr.sliceAt,Sem.run_bind,run_underlying hu,Result.andThen_ok,Ko _ _ xl,Ko _ _ DV,Option.map_none,Instr.slice,hb,lH,Sem.run_pure];rfl
end
def BF{α:Type}:List α→Nat→List α→List α
 |q,_,[]=>q
 |q,i,x::r=>BF (q.set i x) (i+1) r
def Hg(s:Nat→Nat→Gh)(i:Nat):Nat→(Nat→Nat→Gh)→Nat→Nat→Gh
 |0,_=>s
 |k+1,gs=>Hg (λj=>if j=i then gs 0 else s j) (i+1) k (λj=>gs (j+1))
def BG{α:Type}(q:List α)(i:Int)(xs:List α):Int:=(Nat.min xs.length (q.length-i.toNat):Nat)
def r9{α:Type}(q:List α)(i:Int)(xs:List α):List α:=BF q i.toNat (xs.take (Nat.min xs.length (q.length-i.toNat)))
theorem a0w{α:Type}:∀(xs q:List α)(i:Nat),(BF q i xs).length=q.length
 |[],_,_=>rfl
 |x::r,q,i=>by rw[BF,a0w r];simp
theorem BH{α:Type}(q:List α)(i:Int)(xs:List α):(r9 q i xs).length=q.length:=a0w _ _ _
theorem a0x{α:Type}{R:α→(Nat→Gh)→Prop}:∀(xs q:List α)(i:Nat)(s gs:Nat→Nat→Gh),i+xs.length≤q.length→(∀k (h:k<q.length),R q[k] (s k))→(∀k (h:k<xs.length),R xs[k] (gs k))→
  ∀k (h:k<(BF q i xs).length),R (BF q i xs)[k] (Hg s i xs.length gs k)
 |[],q,i,s,gs,_,h1,_,k,h=>h1 k h
 |x::r,q,i,s,gs,hl,h1,h2,k,h=>by
  simp only[List.length_cons]at hl;refine a0x r (q.set i x) (i+1) (λj=>if j=i then gs 0 else s j) (λj=>gs (j+1)) (by simp;omega) (λk' h'=>?_) (λk' h'=>?_) k h
  ·by_cases e:k'=i
   ·subst e;simp only[List.getElem_set_self,if_true];exact h2 0 (by simp)
   ·have h3:k'<q.length:=by simpa using h'
    rw[List.getElem_set_ne (λhe=>e he.symm),if_neg e];exact h1 k' h3
  ·exact h2 (k'+1) (by simpa using h')
theorem OM{α:Type}(T:Ty α)(x:α)(r:List α)(gs:Nat→Nat→Gh):((dt (x::r) gs 0).map (gn T)).flatten=T.enc x (gs 0)++((dt r (λj=>gs (j+1)) 0).map (gn T)).flatten:=by
 simp only[dt,List.map_cons,List.flatten_cons];rw[T6 r gs (λj=>gs (j+1)) (0+1) 0 (λq=>by simp[Nat.add_comm])];rfl
theorem a0y{α:Type}{T:Ty α}(hz:T.z=1):∀(xs q:List α)(i:Nat)(s gs:Nat→Nat→Gh),i+xs.length≤q.length→
  kZ ((dt q s 0).map (gn T)).flatten i ((dt xs gs 0).map (gn T)).flatten=((dt (BF q i xs) (Hg s i xs.length gs) 0).map (gn T)).flatten
 |[],q,i,s,gs,_=>rfl
 |x::r,q,i,s,gs,hl=>by
  simp only[List.length_cons]at hl;have he:∃v,T.enc x (gs 0)=[v]:=by
   have:=T.len x (gs 0);rw[hz]at this;exact List.length_eq_one_iff.1 this
  obtain⟨v,hv⟩:=he;have hi:i<q.length:=by omega
  have h1:=a0p (T:=T) (l:=q) (s:=s) (x:=x) (gx:=gs 0) (i:=i) (off:=0) (z:=1) (vs:=[v]) (λx g=>by rw[T.len,hz]) hi (by
   have h2:∃u,T.enc q[i] (s i)=[u]:=by
    have:=T.len q[i] (s i);rw[hz]at this;exact List.length_eq_one_iff.1 this
   obtain⟨u,hu⟩:=h2;rw[hu,hv];rfl) (by simp)
  rw[Nat.mul_one,Nat.add_zero]at h1;have h3:=a0y hz r (q.set i x) (i+1) (λj=>if j=i then gs 0 else s j) (λj=>gs (j+1)) (by simp;omega);rw[OM,hv];show kZ (((dt q s 0).map (gn T)).flatten.set i v) (i+1) _=_;have h4:((dt q s 0).map (gn T)).flatten.set i v=((dt (q.set i x) (λk=>if k=i then gs 0 else s k) 0).map (gn T)).flatten:=h1;rw[h4];exact h3
theorem a0z{α:Type}{T:Ty α}(hz:T.z=1):∀(xs:List α)(gs:Nat→Nat→Gh)(j:Nat)(h:j<xs.length),(T.enc xs[j] (gs j))[0]?=((dt xs gs 0).map (gn T)).flatten[j]?
 |x::r,gs,0,h=>by
  rw[OM,List.getElem?_append_left (by rw[T.len,hz];decide)];rfl
 |x::r,gs,j+1,h=>by
  rw[OM,List.getElem?_append_right (by rw[T.len,hz];omega),T.len,hz,Nat.add_sub_cancel];exact a0z hz r (λj=>gs (j+1)) j (by simpa using h)
theorem a0A{α:Type}{T:Ty α}:∀(xs:List α)(gs:Nat→Nat→Gh),qY ((dt xs gs 0).map (gn T)).flatten=true
 |[],_=>rfl
 |x::r,gs=>by
  rw[OM];have h1:=T.one x (gs 0);have h2:=a0A (T:=T) r (λj=>gs (j+1));generalize T.enc x (gs 0)=u at*
  induction u with
  |nil=>exact h2
  |cons v t ih=>
   simp only[qY,Bool.and_eq_true,List.cons_append]at h1⊢;exact⟨h1.1,ih h1.2⟩
theorem a7d{α:Type}{e:TypeId}{T:Ty α}{M:Av}{w:World}{q:List α}{g:Gh}(ho:l8 e T M w q g){i j:Int}(dP:0≤i∧i≤j∧j≤ln q):∀k (h:k<(gf q i j).length),T.bP M w (gf q i j)[k] (g.s (i.toNat+k)):=λk h=>by
 have h1:i.toNat+k<q.length:=by
  rw[yI q dP]at h;unfold ln at dP;omega
 have h2:(gf q i j)[k]=q[i.toNat+k]:=by simp[gf]
 rw[h2];exact ho.bP _ h1
section
variable {P:Program} {a:Act} {w:World} {n:Nat} {l:SF} {M:Av}
theorem a0B{α:Type}{T:Ty α}{d:Nat}{tx Tk E ty e:TypeId}{x y:Operand}{pos:String}{after:Array Edge}{g gx:Gh}{q xs:List α}{L:List aB}{n0 c0 m0 c1:Nat}{a0 a1:Option Addr}(i:Int)(H:aj D n l a)(hS:S0 M (.own e T q g::L) w)
  (hs:aM T F0 w xs gx)(jo:∀k (h:k<xs.length),T.bP (ep M (.own e T q g::L)) w xs[k] (gx.s k))
  (hx:ev l [] x=some (.slice a0 n0 c0))(ha:a0=xr g.a g.c i.toNat T.z)(hn:q.length-i.toNat=n0)
  (hy:ev l [] y=some (.slice a1 m0 c1))(vX:gx.a=a1)(hm:xs.length=m0)
  (hu:P.underlying tx=some (.slice E))(hz:(P.info? E).map (·.size)=some 1)(rT:T.z=1)(hi:0≤i∧i≤ln q)(_hL:aD L=[]):
  bg P ⟨some d,.call ⟨.builtin .copy,#[x,y],#[tx,Tk]⟩,ty,pos,after,none⟩ a w λv w'=>v=.int .i64 (BG q i xs)∧∃s:Nat→Nat→Gh,SH M (aD (.own e T q g::L)) w [.own e T (r9 q i xs) (.mk g.a g.c s)] w':=by
 subst ha hn vX hm;have ho:=hS.ow 0 rfl;have hm0:Nat.min xs.length (q.length-i.toNat)≤xs.length:=Nat.min_le_left _ _;have hm1:Nat.min xs.length (q.length-i.toNat)≤q.length-i.toNat:=Nat.min_le_right _ _;have hiq:i.toNat≤q.length:=by unfold ln at hi;omega
 have fin:∀(s:Nat→Nat→Gh)(w':World),Kp (aD (.own e T q g::L)) w w'→Ow e (gn T) T.z w' g.a g.c (dt (r9 q i xs) s 0)→
   (∀k (h:k<(r9 q i xs).length),T.bP (ep M (.own e T q g::L)) w (r9 q i xs)[k] (s k))→SH M (aD (.own e T q g::L)) w [.own e T (r9 q i xs) (.mk g.a g.c s)] w':=λs w' hk how ON=>by
  have lo:∀y∈aD [aB.own e T (r9 q i xs) (.mk g.a g.c s)],w.heap.size≤y∨y∈aD (.own e T q g::L):=λy hy=>.inr (by
   simp only[aD,List.append_nil]at hy;simp only[aD,List.mem_append];exact .inl hy)
  refine SH.step hS hk (by simp) lo ?_;intro f hf;rw[List.mem_singleton]at hf;subst hf;exact⟨how,λk A1=>T.step hS hk lo (ON k A1)⟩
 generalize yB:Nat.min xs.length (q.length-i.toNat)=m at*;have pT:(xs.take m).length=m:=by rw[List.length_take];omega
 have ON:∀k (h:k<(r9 q i xs).length),T.bP (ep M (.own e T q g::L)) w (r9 q i xs)[k] (Hg g.s i.toNat m gx.s k):=by
  unfold r9;rw[yB];have:=a0x (R:=λx g'=>T.bP (ep M (.own e T q g::L)) w x g') (xs.take m) q i.toNat g.s gx.s (by rw[pT];omega) ho.bP (λk h=>by
   rw[List.getElem_take];exact jo k (by rw[pT]at h;omega))
  rw[pT]at this;exact this
 rcases Nat.eq_zero_or_pos m with h0|h0
 ·
  have hr:=run_copy_none (P:=P) w tx Tk ty E (xr g.a g.c i.toNat T.z) gx.a (q.length-i.toNat) c0 xs.length c1 hu hz (yB.trans h0);have hq:r9 q i xs=q:=by unfold r9;rw[yB,h0];rfl
  have Bx:Hg g.s i.toNat m gx.s=g.s:=by rw[h0];rfl
  refine bg.pr (v:=.int .i64 (BG q i xs)) (w':=w) ?_ ⟨rfl,g.s,fin _ _ (Kp.refl _ _) (by rw[hq];exact ho.ow) (by rw[←Bx];exact ON)⟩;unfold BG;rw[yB,h0];simp only[execOp,resolve,Sem.run_bind,Sem.run_pure,Result.andThen_ok,invoke,builtin,List.map_toArray,List.map_cons,List.map_nil,H.ev (fw a) hx,H.ev (fw a) hy,hr];rfl
 ·rcases ho.ow.row.2 with⟨h1,qn⟩|⟨b,cap,r6,hv,_,hw,qu,Th,Kt,Hc⟩
  ·rw[gJ]at qn;omega
  ·simp only[Value.slice.injEq]at hv;obtain⟨yK,_,OL⟩:=hv;rw[gJ]at qu Hc;rw[rT,Nat.mul_one]at Kt Hc;have Ti:b<w.heap.size:=by
    rcases Nat.lt_or_ge b w.heap.size with hb|hb
    ·exact hb
    ·rw[Array.getElem?_eq_none hb]at hw;cases hw
   have hsv:xr g.a g.c i.toNat T.z=some ⟨b,i.toNat,none⟩:=by
    unfold xr;rw[if_neg (by rw[OL];omega),yK,rT,Nat.mul_one];show some ((⟨b,0,none⟩:Addr).add i.toNat)=_;unfold Addr.add;simp;omega
   have He:eg gx.a:=hs.1.ok (by omega);obtain⟨bs,os,hgx⟩:∃bs os,gx.a=some ⟨bs,os,none⟩:=by
    cases hg:gx.a with
    |none=>rw[hg]at He;simp[eg]at He
    |some A=>
     rw[hg]at He;obtain⟨bs,os,r⟩:=A;cases r with
     |none=>exact⟨bs,os,rfl⟩
     |some _=>simp[eg]at He
   let cs:=((dt (xs.take m) gx.s 0).map (gn T)).flatten
   have yG:cs.length=m:=by
    show((dt (xs.take m) gx.s 0).map (gn T)).flatten.length=m;rw[zQ (enc:=gn T) (z:=T.z) (λp=>T.len p.1 p.2),gJ,pT,rT,Nat.mul_one]
   have a7e:∀j v,cs[j]?=some v→w.cell? ((⟨bs,os,none⟩:Addr).add j)=some v:=by
    intro j v hj;have OO:j<m:=by
     rcases Nat.lt_or_ge j m with h|h
     ·exact h
     ·rw[List.getElem?_eq_none (by omega)]at hj;cases hj
    have hg:=hs.1.get j (by omega) 0 v (by
     rw[←a0z rT (xs.take m) gx.s j (by rw[pT];exact OO),List.getElem_take]at hj;exact hj)
    rw[hgx,rT,Nat.mul_one,Nat.add_zero]at hg;unfold Addr.add;split
    ·rename_i h0;rw[h0]at hg;exact hg
    ·exact hg
   have hl:=run_loadCells_list (P:=P) w ⟨bs,os,none⟩ cs a7e;obtain⟨w',h2,h3,Eb⟩:=Te (P:=P) (off:=i.toNat) cs 0 w r6.toList (a0A _ _) (by simpa using hw) (by rw[yG];simp only[Array.length_toList];omega);rw[Nat.add_zero]at Eb;have E1:Kp (aD (.own e T q g::L)) w w':=h3.wide (by intro y hy;simp only[List.mem_singleton]at hy;subst hy;simp only[aD,List.mem_append];left;simp only[aB.own,yK,gI,List.mem_singleton]);have zW:=a0y (T:=T) rT (xs.take m) q i.toNat g.s gx.s (by rw[pT];omega);rw[pT]at zW;have Kj:BF q i.toNat (xs.take m)=r9 q i xs:=by unfold r9;rw[yB]
   rw[Kj]at zW;refine bg.pr (v:=.int .i64 (BG q i xs)) (w':=w') ?_ ⟨rfl,Hg g.s i.toNat m gx.s,fin _ _ E1 ⟨⟨?_,.inr ⟨b,cap,⟨kZ r6.toList i.toNat cs⟩,?_,Nat.zero_le _,by simpa using Eb,?_,Th,?_,?_⟩⟩,?_,?_⟩ ON⟩
   ·have a7f:BG q i xs=(m:Int):=by unfold BG;rw[yB]
    rw[a7f];have hcr:(Builtin.copy_ #[tx,Tk] ty #[.slice (xr g.a g.c i.toNat T.z) (q.length-i.toNat) c0,.slice gx.a xs.length c1]).run P w=.ok (goInt m) w':=by
     rw[hsv,hgx];cases Tl:P.info? E with
     |none=>simp[Tl]at hz
     |some inf=>
      have hi1:inf.size=1:=by simpa[Tl]using hz
      rw[yG]at hl;simp[Builtin.copy_,run_underlying hu,Builtin.lenOf,Builtin.firstCells,sizeOf,typeInfo,Tl,hi1,yB,hl,h2]
    simp only[execOp,resolve,Sem.run_bind,Sem.run_pure,Result.andThen_ok,invoke,builtin,List.map_toArray,List.map_cons,List.map_nil,H.ev (fw a) hx,H.ev (fw a) hy,hcr];rfl
   ·rw[zQ (enc:=gn T) (λp=>T.len p.1 p.2),gJ]
   ·rw[yK,OL]
   ·rw[gJ,BH];exact qu
   ·simp[Tf,Kt,rT]
   ·rw[gJ,rT,Nat.mul_one,BH];show(kZ r6.toList _ _).take q.length=_;rw[Tg _ _ _ _ (by rw[yG];omega),Hc,zW]
   ·intro y hy;rw[yK]at hy;simp[gI]at hy;subst hy;exact Nat.lt_of_lt_of_le Ti h3.size
   ·rw[gJ,BH];have:=ho.ow.ln;rw[gJ]at this;exact this
end
end
section
variable {M:Av} {X:List Nat} {w0 w w':World} {L La Lr L':List aB}
theorem Ec(A B:List aB):aD (A++B)=aD A++aD B:=by
 induction A with
 |nil=>rfl
 |cons e r ih=>simp[aD,ih]
theorem Tm{A B:List aB}(h:A.Perm B){b:Nat}:b∈aD A↔b∈aD B:=by
 rw[jT,jT];exact⟨λ⟨e,he,hb⟩=>⟨e,h.mem_iff.1 he,hb⟩,λ⟨e,he,hb⟩=>⟨e,h.mem_iff.2 he,hb⟩⟩
theorem SH.perm(h:SH M X w0 L w)(hp:L.Perm L'):SH M X w0 L' w:=
 ⟨h.kp,(hp.pairwise_iff (λ{e f} h=>Dj.symm h)).1 h.nd,λb hb=>h.lo b ((Tm hp).2 hb),λb hb=>h.nm b ((Tm hp).2 hb),h.mx,λe he=>e.bW (h.ps e (hp.mem_iff.2 he)) λb hb=>by
  rcases hb with hb|hb
  ·exact .inl hb
  ·exact .inr ((Tm hp).2 hb)⟩
theorem SH.a0C(h:SH M X w0 (La++Lr) w):S0 (ep M Lr) La w:=by
 have hn:=h.nd;rw[List.pairwise_append]at hn;have jo:∀{b:Nat},b∈aD La→b∈aD (La++Lr):=λhb=>by rw[Ec];exact List.mem_append_left _ hb
 have Hh:∀{b:Nat},b∈aD Lr→b∈aD (La++Lr):=λhb=>by rw[Ec];exact List.mem_append_right _ hb
 refine⟨Kp.refl _ _,hn.1,λb hb=>.inr hb,λb hb hm=>?_,λb hm=>?_,λe he=>e.bW (h.ps e (List.mem_append_left _ he)) λb hb=>?_⟩
 ·rcases hm with hm|hm
  ·exact h.nm b (jo hb) hm
  ·obtain⟨e,he,Km⟩:=jT.1 hb;obtain⟨f,hf,Ku⟩:=jT.1 hm;exact hn.2.2 e he f hf b Km Ku
 ·rcases hm with hm|hm
  ·exact Nat.lt_of_lt_of_le (h.mx b hm) h.kp.size
  ·exact h.a0g (Hh hm)
 ·rcases hb with(hb|hb)|hb
  ·exact .inl hb
  ·exact .inr (Hh hb)
  ·exact .inr (jo hb)
theorem SH.a0D(h:SH M X w0 (La++Lr) w)(h2:SH (ep M Lr) (aD La) w L' w'):SH M X w0 (L'++Lr) w':=by
 have hn:=h.nd;rw[List.pairwise_append]at hn;have jo:∀{b:Nat},b∈aD La→b∈aD (La++Lr):=λhb=>by rw[Ec];exact List.mem_append_left _ hb
 have Hh:∀{b:Nat},b∈aD Lr→b∈aD (La++Lr):=λhb=>by rw[Ec];exact List.mem_append_right _ hb
 have OP:∀{b:Nat},b∈aD (L'++Lr)→b∈aD L'∨b∈aD Lr:=λhb=>by rw[Ec]at hb;exact List.mem_append.1 hb
 refine⟨h.kp.trans h2.kp (λy hy=>?_),?_,λb hb=>?_,λb hb=>?_,h.mx,λe he=>?_⟩
 ·rcases h.lo y (jo hy)with h1|h1
  ·exact .inr h1
  ·exact .inl h1
 ·rw[List.pairwise_append];refine⟨h2.nd,hn.2.1,λe he f hf y hy A0=>?_⟩;exact h2.nm y (jT.2 ⟨e,he,hy⟩) (.inr (jT.2 ⟨f,hf,A0⟩))
 ·rcases OP hb with hb|hb
  ·rcases h2.lo b hb with h1|h1
   ·exact .inl (Nat.le_trans h.kp.size h1)
   ·exact h.lo b (jo h1)
  ·exact h.lo b (Hh hb)
 ·rcases OP hb with hb|hb
  ·exact λhm=>h2.nm b hb (.inl hm)
  ·exact h.nm b (Hh hb)
 ·rcases List.mem_append.1 he with he|he
  ·refine e.bW (h2.ps e he) λb hb=>?_;rcases hb with hb|hb
   ·exact .inl (.inl hb)
   ·rcases OP hb with hb|hb
    ·exact .inr hb
    ·exact .inl (.inr hb)
  ·have hp:=e.fresh (h.ps e (List.mem_append_right _ he));refine e.bW (e.kp hp h2.kp (λb hb=>.inl (.inr (jo hb))) (λb hb zZ=>?_)) λb hb=>?_
   ·obtain⟨f,hf,Ku⟩:=jT.1 zZ;exact hn.2.2 f hf e he b Ku hb
   ·rcases hb with hb|hb
    ·exact .inl (.inl hb)
    ·rcases OP hb with hb|hb
     ·rcases h2.lo b hb with h1|h1
      ·exact .inr h1
      ·exact .inl (.inr (jo h1))
     ·exact .inl (.inr (Hh hb))
end
abbrev Gm:=Nat→Nat→Gh
def e9(y:Gm)(i:Nat)(g:Nat→Gh):Gm:=λj=>cond (Nat.beq j i) g (y j)
theorem a7g(y:Gm)(g:Nat→Gh){i j:Nat}(h:j≠i):e9 y i g j=y j:=by
 unfold e9;cases hb:Nat.beq j i with
 |true=>exact absurd (Nat.eq_of_beq_eq_true hb) h
 |false=>rfl
def gV:Nat→Nat→(Nat→Prop)→Prop
 |0,_,_=>True
 |n+1,i,p=>p i∧gV n (i+1) p
theorem gV.get{p:Nat→Prop}:∀{n i:Nat},gV n i p→∀j,i≤j→j<i+n→p j
 |0,i,_,j,h1,h2=>by omega
 |n+1,i,h,j,h1,h2=>by
  by_cases e:j=i
  ·subst e;exact h.1
  ·exact gV.get h.2 j (by omega) (by omega)
def ef(all:List Oper)(i:Nat):Option Nat:=(all[i]?).bind (·.dst)
def rU(n:Nat)(base:SF)(all:List Oper):Bool:=
 (all.all λo=>true&&match o.dst with|some d=>Nat.blt d n&&base.all λe=>e.2.1.isEmpty&&!(Nat.beq e.1 d)|none=>base.all λe=>e.2.1.isEmpty)&&Ed (all.map (·.dst))
where Ed:List (Option Nat)→Bool
 |[]=>true
 |none::r=>Ed r
 |some d::r=>(r.all λq=>match q with|some e=>!(Nat.beq d e)|none=>true)&&Ed r
theorem OQ:∀{l:List (Option Nat)},rU.Ed l=true→∀(i j:Nat)(d e:Nat),i<j→l[i]?=some (some d)→l[j]?=some (some e)→d≠e
 |[],_,i,j,d,e,_,h,_=>by simp at h
 |none::r,hn,i,j,d,e,dP,h1,h2=>by
  match i,j,dP with
  |0,_,_=>simp at h1
  |i+1,j+1,dP=>exact OQ (l:=r) (by simpa[rU.Ed]using hn) i j d e (by omega) (by simpa using h1) (by simpa using h2)
 |some x::r,hn,i,j,d,e,dP,h1,h2=>by
  have hn':(r.all λq=>match q with|some e=>!(Nat.beq x e)|none=>true)=true∧rU.Ed r=true:=by simpa[rU.Ed]using hn
  match i,j,dP with
  |0,j+1,_=>
   have hx:x=d:=by simpa using h1
   subst hx;have:=(List.all_eq_true.1 hn'.1) (some e) (List.mem_of_getElem? (by simpa using h2));intro hde;subst hde;simp at this
  |i+1,j+1,dP=>exact OQ (l:=r) hn'.2 i j d e (by omega) (by simpa using h1) (by simpa using h2)
def cZ(N:Nat)(ress:Gm→List (List aB))(L:List aB)(y:Gm):List Nat→List aB
 |[]=>[]
 |j::r=>(cond (Nat.blt j N) ((ress y).getD j []) [L.getD (j-N) .none])++cZ N ress L y r
def iC(l:List Nat)(j:Nat):Bool:=l.any λk=>Nat.beq k j
theorem ra{l:List Nat}{j:Nat}:iC l j=true↔j∈l:=by
 unfold iC;rw[List.any_eq_true];exact⟨λ⟨k,hk,h⟩=>by rw[←Nat.eq_of_beq_eq_true h];exact hk,λh=>⟨j,h,by simp⟩⟩
def nodupB:List Nat→Bool
 |[]=>true
 |k::r=>!iC r k&&nodupB r
theorem a0E:∀{l:List Nat},nodupB l=true→l.Nodup
 |[],_=>List.nodup_nil
 |k::r,h=>by
  unfold nodupB at h;rw[Bool.and_eq_true]at h;rw[List.nodup_cons];refine⟨λhk=>?_,a0E h.2⟩;rw[ra.2 hk]at h;simp at h
def yL(N m:Nat)(all:List Oper)(use cons cQ:List (List Nat)):Bool:=
 (List.range N).all λi=>
  nodupB (use.getD i [])&&
  ((use.getD i []).all λj=>Nat.blt j (N+m)&&(!(Nat.blt j N)||reach all N i j)&&(List.range N).all λk=>!(iC (cons.getD k []) j)||Nat.beq k i||reach all N k i)&&
  ((cons.getD i []).all λj=>iC (use.getD i []) j)&&
  ((cQ.getD i []).all λj=>Nat.beq j i||reach all N i j)&&
  ((List.range N).all λk=>Nat.beq k i||(cons.getD k []).all λj=>!(iC (cons.getD i []) j))
def gW(listed:Array Bool)(k:Nat):Bool:=listed.getD k false
def tu(N:Nat)(cons:List (List Nat))(listed:Array Bool)(j:Nat):Bool:=(List.range N).any λk=>gW listed k&&iC (cons.getD k []) j
def ou(N m:Nat)(cons:List (List Nat))(listed:Array Bool):List Nat:=(List.range (N+m)).filter λj=>(!(Nat.blt j N)||gW listed j)&&!(tu N cons listed j)
def w9(N m:Nat)(cons:List (List Nat)):List Nat:=(List.range (N+m)).filter λj=>!((List.range N).any λk=>iC (cons.getD k []) j)
section
variable {N:Nat} {ress:Gm→List (List aB)} {L:List aB} {y:Gm}
theorem a0F(A B:List Nat):cZ N ress L y (A++B)=cZ N ress L y A++cZ N ress L y B:=by
 induction A with
 |nil=>rfl
 |cons j r ih=>simp[cZ,ih]
theorem a0G{A B:List Nat}(h:A.Perm B):(cZ N ress L y A).Perm (cZ N ress L y B):=by
 induction h with
 |nil=>exact List.Perm.nil
 |cons x _ ih=>exact List.Perm.append_left _ ih
 |swap x z l=>
  simp only[cZ,←List.append_assoc];exact List.Perm.append_right _ List.perm_append_comm
 |trans _ _ h1 h2=>exact h1.trans h2
theorem a7h{y':Gm}{A:List Nat}(h:∀j∈A,Nat.blt j N=true→(ress y).getD j []=(ress y').getD j []):cZ N ress L y A=cZ N ress L y' A:=by
 induction A with
 |nil=>rfl
 |cons j r ih=>
  simp only[cZ];rw[ih λk hk=>h k (List.mem_cons_of_mem _ hk)];congr 1;cases hb:Nat.blt j N with
  |true=>simp only[cond_true];exact h j List.mem_cons_self hb
  |false=>rfl
end
def A3(N:Nat)(all:List Oper)(fa:List (Nat×Nat×Value)):Bool:=
 fa.all λe=>Nat.blt e.2.1 N&&(List.range N).all λi=>Nat.beq i e.2.1||!(ef all i==some e.1)
structure DI{n:Nat}(N m:Nat)(base:SF)(all:List Oper)(cons:List (List Nat))(bZ:Gm→List Value)(ress:Gm→List (List aB))(L:List aB)(fa:List (Nat×Nat×Value))(M:Av)(X:List Nat)(wE:World)(listed:Array Bool)(a:Act)(w:World)(y:Gm):Prop where
 size:listed.size=N
 fr:aj [] n base a
 did:∀i,gW listed i=true→∀d,ef all i=some d→a.tmps[d]?=some ((bZ y).getD i undef)
 cl:∀(i:Nat)(o:Oper),gW listed i=true→all[i]?=some o→∀e∈o.after,Region.binds .any e=true→gW listed e.on=true
 sh:SH M X wE (cZ N ress L y (ou N m cons listed)) w
 od:∀(k:Nat) e,fa[k]?=some e→gW listed e.2.1=false→a.tmps[e.1]?=some e.2.2
theorem Kv{l:List Nat}(p:Nat→Bool)(h:l.Nodup):(l.filter p).Nodup:=List.Pairwise.filter p h
theorem nt{b:Bool}:(!b)=true↔¬b=true:=by cases b<;>simp
theorem a0H{j N:Nat}:Nat.blt j N=true↔j<N:=by simp[Nat.blt,Nat.lt_iff_add_one_le]
theorem rV{listed:Array Bool}{i:Nat}:gW listed i=true↔listed[i]?=some true:=by
 unfold gW;rw[Array.getD_eq_getD_getElem?];cases h:listed[i]? with
 |none=>simp
 |some b=>simp
@[reducible] def uv (o:Oper):Oper:=match o with
 |⟨d,op,ty,pos,after,_⟩=>⟨d,op,ty,pos,after,none⟩
def uw(all:List Oper)(bZ:Gm→List Value)(cQ:List (List Nat))(i:Nat):Option (Nat×Bool)→Prop
 |none=>True
 |some (j,b)=>(iC (cQ.getD i []) j&&!(Nat.beq j i)&&(ef all j).isSome)=true∧∀y,(bZ y).getD j undef=.bool b
def Kw(all:List Oper)(bZ:Gm→List Value)(ress:Gm→List (List aB))(use cQ:List (List Nat))(i:Nat):Option (Nat×Bool)→Prop
 |none=>False
 |some (j,b)=>(iC (cQ.getD i []) j&&!(Nat.beq j i)&&(ef all j).isSome)=true∧((∀y,(bZ y).getD j undef=.bool (!b))∨∀y,(bZ y).getD j undef=undef)∧(∀y,(bZ y).getD i undef=undef∧(ress y).getD i []=[])∧use.getD i []=[]
theorem gV.and{p q:Nat→Prop}:∀{n i:Nat},gV n i p→gV n i q→gV n i λi=>p i∧q i
 |0,_,_,_=>trivial
 |_+1,_,h,k=>⟨⟨h.1,k.1⟩,gV.and h.2 k.2⟩
theorem gV.imp{p q:Nat→Prop}(f:∀i,p i→q i):∀{n i:Nat},gV n i p→gV n i q
 |0,_,_=>trivial
 |_+1,i,h=>⟨f i h.1,gV.imp f h.2⟩
theorem nI{all:List Oper}{bZ:Gm→List Value}{cQ:List (List Nat)}(h:(all.all λo=>o.guard.isNone)=true):∀n i,gV n i λi=>uw all bZ cQ i ((all[i]?).bind (·.guard))
 |0,_=>trivial
 |n+1,i=>by
  refine⟨?_,nI h n (i+1)⟩;show uw all bZ cQ i ((all[i]?).bind (·.guard));cases hi:all[i]? with
  |none=>trivial
  |some o=>
   have:=List.all_eq_true.1 h o (List.mem_of_getElem? hi);have h2:o.guard=none:=by simpa using this
   show uw all bZ cQ i o.guard;rw[h2];trivial
theorem a0I{P:Program}{n id:Nat}{all:List Oper}{Q:Exit→Act→World→Prop}{a:Act}{w wE:World}{base:SF}{M:Av}{X:List Nat}{L:List aB}(N m:Nat)(bZ:Gm→List Value)(ress:Gm→List (List aB))(use cons cQ:List (List Nat))(fa:List (Nat×Nat×Value))
  (H:aj [] n base a)(hold:∀(k:Nat) e,fa[k]?=some e→a.tmps[e.1]?=some e.2.2)(px:A3 N all fa=true)(hS:SH M X wE L w)(hm:P.follows .mixedOrders=true)(hN:all.length=N)(hL:L.length=m)(jn:rU n base all=true)(lJ:yH all=true)(qv:yL N m all use cons cQ=true)
  (xt:gV N 0 λj=>∀(y:Gm)(i:Nat)(g:Nat→Gh),i∉cQ.getD j []→(bZ (e9 y i g)).getD j undef=(bZ y).getD j undef∧(ress (e9 y i g)).getD j []=(ress y).getD j [])
  (hA:gV N 0 λi=>Kw all bZ ress use cQ i ((all[i]?).bind (·.guard))∨(uw all bZ cQ i ((all[i]?).bind (·.guard))∧∀o,all[i]?=some o→∀a' w' y M',aj [] n base a'→(∀j∈cQ.getD i [],j≠i→∀d,ef all j=some d→a'.tmps[d]?=some ((bZ y).getD j undef))→(∀(k:Nat) e,fa[k]?=some e→(Nat.beq e.2.1 i||reach all N e.2.1 i)=true→a'.tmps[e.1]?=some e.2.2)→S0 M' (cZ N ress L y (use.getD i [])) w'→
   bg P (uv o) a' w' λv w2=>∃g:Nat→Gh,(∀d,ef all i=some d→v=(bZ (e9 y i g)).getD i undef)∧SH M' (aD (cZ N ress L y (use.getD i []))) w' ((ress (e9 y i g)).getD i []++cZ N ress L y ((use.getD i []).filter λj=>!(iC (cons.getD i []) j))) w2))
  (hK:∀a' w' y,aj [] n base a'→(∀i d,ef all i=some d→a'.tmps[d]?=some ((bZ y).getD i undef))→SH M X wE (cZ N ress L y (w9 N m cons)) w'→Q .normal a' w'):
  (Code.region id all.toArray true).wp P Q a w:=by
 subst hN;have a0J:∀(y:Gm)(i:Nat)(g:Nat→Gh)(j:Nat),j<all.length→i∉cQ.getD j []→(bZ (e9 y i g)).getD j undef=(bZ y).getD j undef∧(ress (e9 y i g)).getD j []=(ress y).getD j []:=λy i g j hj=>xt.get j (by omega) (by omega) y i g;unfold rU at jn;rw[Bool.and_eq_true,List.all_eq_true]at jn;obtain⟨a7i,Kx⟩:=jn;have Tn:∀i o,all[i]?=some o→True∧o.dst=ef all i∧(∀e∈base,e.2.1=[])∧∀d,ef all i=some d→Nat.blt d n=true∧∀e∈base,e.1≠d:=by
  intro i o ho;have h1:=a7i o (List.mem_of_getElem? ho);rw[Bool.and_eq_true]at h1;obtain⟨h2,h3⟩:=h1;have e1:ef all i=o.dst:=by simp[ef,ho]
  rw[e1];cases hd:o.dst with
  |none=>
   simp only[hd,List.all_eq_true]at h3;exact⟨trivial,rfl,λe he=>by have:=h3 e he;simpa using this,λd hd=>by cases hd⟩
  |some d=>
   simp only[hd,Bool.and_eq_true,List.all_eq_true]at h3;refine⟨trivial,rfl,λe he=>?_,λd' l9=>?_⟩
   ·have:=h3.2 e he;simp only[List.isEmpty_iff]at this;exact this.1
   ·cases l9;refine⟨h3.1,λe he=>?_⟩;have:=h3.2 e he;simp only[Bool.not_eq_true']at this;exact Nat.ne_of_beq_eq_false this.2
 have a7j:∀i j d e,i≠j→ef all i=some d→ef all j=some e→d≠e:=by
  intro i j d e dP h1 h2;have g1:(all.map (·.dst))[i]?=some (some d):=by
   unfold ef at h1;rw[List.getElem?_map];cases hx:all[i]? with
   |none=>rw[hx]at h1;cases h1
   |some o=>rw[hx]at h1;simpa using h1
  have g2:(all.map (·.dst))[j]?=some (some e):=by
   unfold ef at h2;rw[List.getElem?_map];cases hx:all[j]? with
   |none=>rw[hx]at h2;cases h2
   |some o=>rw[hx]at h2;simpa using h2
  rcases Nat.lt_or_gt_of_ne dP with kL|kL
  ·exact OQ Kx i j d e kL g1 g2
  ·exact λh=>OQ Kx j i e d kL g2 g1 h.symm
 have To:∀i o,all[i]?=some o→∀e∈o.after,Region.binds .any e=true→e.on<i:=by
  intro i o ho e he hb;have hi:i<all.length:=(List.getElem?_eq_some_iff.1 ho).1;have h1:=(List.all_eq_true.1 lJ) i (List.mem_range.2 hi);rw[ho]at h1;have h2:=(List.all_eq_true.1 h1) e (by simpa using he);rw[hb]at h2;simpa[Nat.blt,Nat.lt_iff_add_one_le]using h2
 -- what was checked
 have Tp:∀i,i<all.length→(use.getD i []).Nodup∧(∀j∈use.getD i [],j<all.length+m∧(j<all.length→reach all all.length i j=true)∧∀k,k<all.length→j∈cons.getD k []→k=i∨reach all all.length k i=true)∧
   (∀j∈cons.getD i [],j∈use.getD i [])∧(∀j∈cQ.getD i [],j=i∨reach all all.length i j=true)∧∀k,k<all.length→k≠i→∀j∈cons.getD k [],j∉cons.getD i []:=by
  intro i hi;have h1:=(List.all_eq_true.1 qv) i (List.mem_range.2 hi);simp only[Bool.and_eq_true]at h1;obtain⟨⟨⟨⟨h1,h2⟩,h3⟩,h4⟩,h5⟩:=h1;refine⟨a0E h1,λj hj=>?_,λj hj=>ra.1 ((List.all_eq_true.1 h3) j hj),λj hj=>?_,λk hk hki j hj A4=>?_⟩
  ·have:=(List.all_eq_true.1 h2) j hj;simp only[Bool.and_eq_true,Bool.or_eq_true,Bool.not_eq_true']at this;obtain⟨⟨p1,p2⟩,p3⟩:=this;refine⟨by simpa[Nat.blt,Nat.lt_iff_add_one_le]using p1,λHi=>?_,λk hk hjk=>?_⟩
   ·rcases p2 with p2|p2
    ·have:Nat.blt j all.length=true:=by simpa[Nat.blt,Nat.lt_iff_add_one_le]using Hi
     rw[this]at p2;cases p2
    ·exact p2
   ·have:=(List.all_eq_true.1 p3) k (List.mem_range.2 hk);simp only[Bool.or_eq_true,Bool.not_eq_true']at this;rcases this with(q|q)|q
    ·rw[ra.2 hjk]at q;cases q
    ·exact .inl (Nat.eq_of_beq_eq_true q)
    ·exact .inr q
  ·have:=(List.all_eq_true.1 h4) j hj;simp only[Bool.or_eq_true]at this;rcases this with q|q
   ·exact .inl (Nat.eq_of_beq_eq_true q)
   ·exact .inr q
  ·have:=(List.all_eq_true.1 h5) k (List.mem_range.2 hk);simp only[Bool.or_eq_true]at this;rcases this with q|q
   ·exact hki (Nat.eq_of_beq_eq_true q)
   ·have:=(List.all_eq_true.1 q) j hj;rw[ra.2 A4]at this;cases this
 refine wp_region_any hm ?_;have a0K:∀(listed:Array Bool)(a':Act)(w':World)(y:Gm),DI (n:=n) all.length m base all cons bZ ress L fa M X wE listed a' w' y→Region.ready .any all.toArray listed=[]→Q .normal a' w':=by
  intro listed a' w' y hI hr;have A5:∀i,i<all.length→gW listed i=true:=by
   intro i
   induction i using Nat.strongRecOn with
   |_ i ih=>
    intro hi;have his:i<listed.size:=by rw[hI.size];exact hi
    cases hb:listed[i]with
    |true=>rw[rV,Array.getElem?_eq_getElem his,hb]
    |false=>
     exfalso;have:i∈Region.ready .any all.toArray listed:=by
      rw[mem_ready];refine⟨by simp[his,hb],all[i],by simp[hi],λe he Kf=>?_⟩;have kL:=To i all[i] (List.getElem?_eq_getElem hi) e he Kf;exact ih e.on kL (by omega)
     rw[hr]at this;cases this
  have zW:ou all.length m cons listed=w9 all.length m cons:=by
   unfold ou w9;apply List.filter_congr;intro j _;have h1:(!(Nat.blt j all.length)||gW listed j)=true:=by
    cases hb:Nat.blt j all.length with
    |false=>rfl
    |true=>simp only[Bool.not_true,Bool.false_or];exact A5 j (by simpa[Nat.blt,Nat.lt_iff_add_one_le]using hb)
   rw[h1,Bool.true_and];congr 1;unfold tu;rw[Bool.eq_iff_iff,List.any_eq_true,List.any_eq_true];constructor
   ·rintro⟨k,hk,h⟩;rw[Bool.and_eq_true]at h;exact⟨k,hk,h.2⟩
   ·rintro⟨k,hk,h⟩;exact⟨k,hk,by rw[A5 k (List.mem_range.1 hk),h];rfl⟩
  refine hK a' w' y hI.fr (λi d hd=>hI.did i (A5 i ?_) d hd) (zW▸hI.sh);unfold ef at hd;rcases Nat.lt_or_ge i all.length with h|h
  ·exact h
  ·rw[List.getElem?_eq_none h]at hd;cases hd
 have key:∀(fuel:Nat)(listed:Array Bool)(a':Act)(w':World)(y:Gm),DI (n:=n) all.length m base all cons bZ ress L fa M X wE listed a' w' y→listed.toList.count false=fuel→wpAny P .any all.toArray Q fuel listed a' w':=by
  intro fuel
  induction fuel with
  |zero=>
   intro listed a' w' y hI hc;have hno:Region.ready .any all.toArray listed=[]:=by
    rw[List.eq_nil_iff_forall_not_mem];intro i hi;have h1:=(mem_ready.1 hi).1;have h2:=List.count_eq_zero.1 hc;have kL:i<listed.size:=by
     rcases Nat.lt_or_ge i listed.size with h|h
     ·exact h
     ·simp[Array.getD_eq_getD_getElem?,Array.getElem?_eq_none h]at h1
    apply h2;simp[Array.getD_eq_getD_getElem?,kL]at h1;rw[←h1];simp
   exact⟨hno,a0K listed a' w' y hI hno⟩
  |succ fuel ih=>
   intro listed a' w' y hI hc;refine⟨a0K listed a' w' y hI,λi hi=>?_⟩;obtain⟨hun,o,ho,A5⟩:=mem_ready.1 hi;have kL:i<listed.size:=by
    rcases Nat.lt_or_ge i listed.size with h|h
    ·exact h
    ·simp[Array.getD_eq_getD_getElem?,Array.getElem?_eq_none h]at hun
   have a0L:listed[i]=false:=by simpa[Array.getD_eq_getD_getElem?,kL]using hun
   have Ee:all[i]?=some o:=by simpa using ho
   obtain⟨_,hd,a7k,a0M⟩:=Tn i o Ee;have Hj:i<all.length:=by rw[←hI.size];exact kL
   obtain⟨c1,c2,c3,c4,c5⟩:=Tp i Hj;have Ef:∀e∈o.after,Region.binds .any e=true→listed[e.on]?=some true:=λe he hb=>rV.1 (A5 e he hb);have Tq:∀(i:Nat)(o:Oper),listed[i]?=some true→all[i]?=some o→∀e∈o.after,Region.binds .any e=true→listed[e.on]?=some true:=λi o h1 h2 e he hb=>rV.1 (hI.cl i o (rV.2 h1) h2 e he hb);have OR:∀j,reach all all.length i j=true→gW listed j=true:=λj hj=>rV.2 (T4 Tq _ i j o Ee Ef hj);have Hk:gW listed i=false:=by
    cases hb:gW listed i with
    |false=>rfl
    |true=>rw[rV,Array.getElem?_eq_getElem kL,a0L]at hb;cases hb
   have OS:∀k,gW listed k=true→reach all all.length k i=true→False:=by
    intro k hk hr;have hkl:k<all.length:=by
     rw[←hI.size];rcases Nat.lt_or_ge k listed.size with h|h
     ·exact h
     ·rw[rV,Array.getElem?_eq_none h]at hk;cases hk
    have jn:all[k]?=some all[k]:=List.getElem?_eq_getElem hkl;have:=rV.2 (T4 Tq _ k i all[k] jn (λe he hb=>Tq k _ (rV.1 hk) jn e he hb) hr);rw[Hk]at this;cases this
   -- what is used is there
   have Ky:∀j∈use.getD i [],j∈ou all.length m cons listed:=by
    intro j hj;obtain⟨q1,q2,q3⟩:=c2 j hj;unfold ou;rw[List.mem_filter,List.mem_range,Bool.and_eq_true];refine⟨q1,?_,?_⟩
    ·rcases Nat.lt_or_ge j all.length with h|h
     ·rw[OR j (q2 h)];simp
     ·have:Nat.blt j all.length=false:=by
       cases hb:Nat.blt j all.length with
       |false=>rfl
       |true=>
        have:j<all.length:=by simpa[Nat.blt,Nat.lt_iff_add_one_le]using hb
        omega
      rw[this];rfl
    ·cases hb:tu all.length cons listed j with
     |false=>rfl
     |true=>
      exfalso;unfold tu at hb;rw[List.any_eq_true]at hb;obtain⟨k,hk,hb⟩:=hb;rw[Bool.and_eq_true]at hb;rcases q3 k (List.mem_range.1 hk) (ra.1 hb.2)with rfl|hr
      ·rw[Hk]at hb;cases hb.1
      ·exact OS k hb.1 hr
   have Tr:(ou all.length m cons listed).Nodup:=Kv _ List.nodup_range
   let U:=use.getD i []
   let C:=cons.getD i []
   let R:=(ou all.length m cons listed).filter λj=>!(iC U j)
   have hpu:(ou all.length m cons listed).Perm (U++R):=by
    rw[List.perm_ext_iff_of_nodup Tr]
    ·intro j;rw[List.mem_append,List.mem_filter];constructor
     ·intro hj;by_cases hju:j∈U
      ·exact .inl hju
      ·refine .inr ⟨hj,?_⟩;cases hb:iC U j with
       |false=>rfl
       |true=>exact absurd (ra.1 hb) hju
     ·rintro(hj|hj)
      ·exact Ky j hj
      ·exact hj.1
    ·rw[List.nodup_append];refine⟨c1,Kv _ Tr,λx hx z hz e=>?_⟩;subst e;rw[List.mem_filter,ra.2 hx]at hz;cases hz.2
   have OT:=hI.sh.perm (a0G (N:=all.length) (ress:=ress) (L:=L) (y:=y) hpu);rw[a0F]at OT;have hh:=OT.a0C;have a7l:∀(k:Nat) e,fa[k]?=some e→(Nat.beq e.2.1 i||reach all all.length e.2.1 i)=true→a'.tmps[e.1]?=some e.2.2:=by
    intro k e he hr;refine hI.od k e he ?_;rw[Bool.or_eq_true]at hr;rcases hr with hr|hr
    ·rw[Nat.eq_of_beq_eq_true hr];exact Hk
    ·cases hb:gW listed e.2.1 with
     |false=>rfl
     |true=>exact(OS e.2.1 hb hr).elim
   have fin:∀(v:Value)(w2:World)(g:Nat→Gh),(∀d,ef all i=some d→v=(bZ (e9 y i g)).getD i undef)→SH (ep M (cZ all.length ress L y R)) (aD (cZ all.length ress L y U)) w' ((ress (e9 y i g)).getD i []++cZ all.length ress L y (U.filter λj=>!(iC C j))) w2→
     wpAny P .any all.toArray Q fuel (listed.setIfInBounds i true) (a'.put (ef all i) v) w2:=by
    intro v w2 g hv xu;have yM:∀j:Nat,gW (listed.setIfInBounds i true) j=true↔j=i∨gW listed j=true:=by
     intro j;rw[rV,rV,Array.getElem?_setIfInBounds];by_cases e:i=j
     ·subst e;simp[kL]
     ·rw[if_neg e];exact⟨λh=>.inr h,λh=>h.resolve_left λx=>e x.symm⟩
    have a0N:∀j,gW listed j=true→j<all.length:=by
     intro j hj;rw[←hI.size];rcases Nat.lt_or_ge j listed.size with h|h
     ·exact h
     ·rw[rV,Array.getElem?_eq_none h]at hj;cases hj
    -- the others stand on nothing of this one
    have a0O:∀j,gW listed j=true→i∉cQ.getD j []:=by
     intro j hj E4;obtain⟨_,_,_,d4,_⟩:=Tp j (a0N j hj);rcases d4 i E4 with e|hr
     ·subst e;rw[Hk]at hj;cases hj
     ·exact OS j hj hr
    have a0P:∀j,j∈ou all.length m cons listed→j<all.length→gW listed j=true:=by
     intro j hj Hi;unfold ou at hj;rw[List.mem_filter,Bool.and_eq_true]at hj;have hb:Nat.blt j all.length=true:=by simpa[Nat.blt,Nat.lt_iff_add_one_le]using Hi
     have:=hj.2.1;rw[hb]at this;simpa using this
    have a0Q:∀A:List Nat,(∀j∈A,j∈ou all.length m cons listed)→cZ all.length ress L y A=cZ all.length ress L (e9 y i g) A:=by
     intro A hA;refine a7h λj hj hb=>?_;have Hi:j<all.length:=by simpa[Nat.blt,Nat.lt_iff_add_one_le]using hb
     exact(a0J y i g j Hi (a0O j (a0P j (hA j hj) Hi))).2.symm
    have a7m:=OT.a0D xu
    let K:=U.filter λj=>!(iC C j)
    have e1:cZ all.length ress L y K=cZ all.length ress L (e9 y i g) K:=a0Q K λj hj=>Ky j (List.mem_filter.1 hj).1;have e2:cZ all.length ress L y R=cZ all.length ress L (e9 y i g) R:=a0Q R λj hj=>(List.mem_filter.1 hj).1;have hbi:Nat.blt i all.length=true:=by simpa[Nat.blt,Nat.lt_iff_add_one_le]using Hj
    have e3:(ress (e9 y i g)).getD i []++cZ all.length ress L (e9 y i g) K++cZ all.length ress L (e9 y i g) R=cZ all.length ress L (e9 y i g) (i::(K++R)):=by
     simp only[cZ,hbi,cond_true,a0F,List.append_assoc]
    have a7n:SH M X wE (cZ all.length ress L (e9 y i g) (i::(K++R))) w2:=by
     rw[←e3,←e1,←e2];exact a7m
    have vY:(i::(K++R)).Perm (ou all.length m cons (listed.setIfInBounds i true)):=by
     have a7o:∀j,tu all.length cons (listed.setIfInBounds i true) j=true↔j∈C∨tu all.length cons listed j=true:=by
      intro j;unfold tu;rw[List.any_eq_true,List.any_eq_true];constructor
      ·rintro⟨k,hk,h⟩;rw[Bool.and_eq_true,yM]at h;rcases h.1 with rfl|h1
       ·exact .inl (ra.1 h.2)
       ·exact .inr ⟨k,hk,by rw[h1,h.2];rfl⟩
      ·rintro(h|⟨k,hk,h⟩)
       ·exact⟨i,List.mem_range.2 Hj,by rw[Bool.and_eq_true,yM];exact⟨.inl rfl,ra.2 h⟩⟩
       ·rw[Bool.and_eq_true]at h;exact⟨k,hk,by rw[Bool.and_eq_true,yM];exact⟨.inr h.1,h.2⟩⟩
     have Ts:i∉ou all.length m cons listed:=by
      intro h;have:=a0P i h Hj;rw[Hk]at this;cases this
     have hiC:¬(i∈C∨tu all.length cons listed i=true):=by
      rintro(h|h)
      ·exact Ts (Ky i (c3 i h))
      ·unfold tu at h;rw[List.any_eq_true]at h;obtain⟨k,hk,h⟩:=h;rw[Bool.and_eq_true]at h;obtain⟨_,d2,d3,_,_⟩:=Tp k (List.mem_range.1 hk);have OU:=d3 i (ra.1 h.2);exact OS k h.1 ((d2 i OU).2.1 Hj)
     rw[List.perm_ext_iff_of_nodup]
     ·intro j;have rW:j∈ou all.length m cons (listed.setIfInBounds i true)↔j<all.length+m∧((¬j<all.length)∨j=i∨gW listed j=true)∧¬(j∈C∨tu all.length cons listed j=true):=by
       unfold ou;rw[List.mem_filter,List.mem_range,Bool.and_eq_true,Bool.or_eq_true,yM,nt,nt,a7o,a0H]
      have Tu:j∈ou all.length m cons listed↔j<all.length+m∧((¬j<all.length)∨gW listed j=true)∧¬(tu all.length cons listed j=true):=by
       unfold ou;rw[List.mem_filter,List.mem_range,Bool.and_eq_true,Bool.or_eq_true,nt,nt,a0H]
      rw[rW,List.mem_cons,List.mem_append,List.mem_filter,List.mem_filter];have hnb:∀(l:List Nat),(!(iC l j))=true↔j∉l:=λl=>by
       rw[Bool.not_eq_true',←ra (l:=l)];simp
      rw[hnb,hnb];constructor
      ·rintro(rfl|⟨h1,h2⟩|⟨h1,h2⟩)
       ·exact⟨by omega,.inr (.inl rfl),hiC⟩
       ·obtain⟨p1,p2,p3⟩:=Tu.1 (Ky j h1);refine⟨p1,p2.imp_right .inr,?_⟩;rintro(h|h)
        ·exact h2 h
        ·exact p3 h
       ·obtain⟨p1,p2,p3⟩:=Tu.1 h1;refine⟨p1,p2.imp_right .inr,?_⟩;rintro(h|h)
        ·exact h2 (c3 j h)
        ·exact p3 h
      ·rintro⟨p1,p2,p3⟩;by_cases e:j=i
       ·exact .inl e
       ·right;have SE:j∈ou all.length m cons listed:=Tu.2 ⟨p1,p2.imp_right λh=>h.resolve_left e,λh=>p3 (.inr h)⟩;by_cases hu:j∈U
        ·exact .inl ⟨hu,λh=>p3 (.inl h)⟩
        ·exact .inr ⟨SE,hu⟩
     ·rw[List.nodup_cons,List.nodup_append];refine⟨λh=>?_,Kv _ c1,Kv _ Tr,λx hx z hz e=>?_⟩
      ·rw[List.mem_append,List.mem_filter,List.mem_filter]at h;rcases h with h|h
       ·exact Ts (Ky i h.1)
       ·exact Ts h.1
      ·subst e;rw[List.mem_filter]at hx hz;rw[ra.2 hx.1]at hz;cases hz.2
     ·exact Kv _ List.nodup_range
    refine ih (listed.setIfInBounds i true) (a'.put (ef all i) v) w2 (e9 y i g) ⟨by simp[hI.size],?_,?_,?_,a7n.perm (a0G vY),?_⟩ ?_
    ·cases Kz:ef all i with
     |none=>exact hI.fr
     |some d=>
      obtain⟨hdn,Kf⟩:=a0M d Kz;have h1:aj [] n (oX base d [] v) (a'.put (some d) v):=aj.set (H:=hI.fr) hdn;refine⟨h1.1,h1.2.1,λe he=>?_⟩;have Tc:=a7k e he;have hQ:=Kf e he;have h2:=hI.fr.2.2 e he;rw[Tc]at h2⊢;refine⟨λ_=>?_,λx=>absurd (fw _) x⟩;rw[GM hQ];exact h2.1 (fw _)
    ·intro j hj d xv;rcases(yM j).1 hj with e1|A4
     ·subst e1;have lH:d<a'.tmps.size:=by
       have h1:=hI.fr.2.1;have:d<n:=by simpa[Nat.blt,Nat.lt_iff_add_one_le]using(a0M d xv).1
       omega
      rw[hv d xv,xv];simp[Act.put,lH]
     ·have hQ:j≠i:=λe=>by subst e;rw[Hk]at A4;cases A4
      have a0R:=hI.did j A4 d xv;rw[(a0J y i g j (a0N j A4) (a0O j A4)).1];cases Kz:ef all i with
      |none=>exact a0R
      |some d2=>
       rw[GM (a7j j i d d2 hQ xv Kz)];exact a0R
    ·intro j oj hj Tw e he hb;rcases(yM j).1 hj with e1|A4
     ·subst e1;rw[Ee]at Tw;cases Tw;exact(yM _).2 (.inr (rV.2 (Ef e he hb)))
     ·exact(yM _).2 (.inr (hI.cl j oj A4 Tw e he hb))
    ·intro k e he hl;have hQ:e.2.1≠i∧gW listed e.2.1=false:=by
      refine⟨λh=>?_,?_⟩
      ·rw[h,(yM i).2 (.inl rfl)]at hl;cases hl
      ·cases hb:gW listed e.2.1 with
       |false=>rfl
       |true=>rw[(yM _).2 (.inr hb)]at hl;cases hl
     have h0:=hI.od k e he hQ.2;have h1:=(List.all_eq_true.1 px) e (List.mem_of_getElem? he);rw[Bool.and_eq_true]at h1;have h2:=(List.all_eq_true.1 h1.2) i (List.mem_range.2 Hj);rw[Bool.or_eq_true]at h2;have h3:¬ef all i=some e.1:=by
      rcases h2 with h2|h2
      ·exact absurd (Nat.eq_of_beq_eq_true h2).symm hQ.1
      ·simpa using h2
     cases Kz:ef all i with
     |none=>exact h0
     |some d=>
      rw[GM (λh=>h3 (by rw[Kz,h]))];exact h0
    ·rw[Array.toList_setIfInBounds,List.count_set (by simpa using kL)];simp[a0L,hc]
   have hAi:=hA.get i (by omega) (by omega);rw[Ee]at hAi;unfold wpOp;rw[ho];rcases hAi with Hl|⟨OV,KA⟩
   ·replace Hl:Kw all bZ ress use cQ i o.guard:=Hl;have Tx:Region.wanted o (yielded all.toArray a'.tmps)=false∧(∀y,(bZ y).getD i undef=undef∧(ress y).getD i []=[])∧U=[]:=by
     cases BI:o.guard with
     |none=>rw[BI]at Hl;exact Hl.elim
     |some jb=>
      obtain⟨j,b⟩:=jb;rw[BI]at Hl;obtain⟨g1,g2,g3,g4⟩:=Hl;rw[Bool.and_eq_true,Bool.and_eq_true,Bool.not_eq_true']at g1;have hj:j∈cQ.getD i []:=ra.1 g1.1.1;have Hm:j≠i:=Nat.ne_of_beq_eq_false g1.1.2;obtain⟨d,xv⟩:=Option.isSome_iff_exists.1 g1.2;have h1:=hI.did j (OR j ((c4 j hj).resolve_left Hm)) d xv;refine⟨?_,g3,g4⟩;have h0:((all.toArray[j]?).bind (·.dst))=some d:=by simpa[ef]using xv
      rcases g2 with g2|g2
      ·rw[g2 y]at h1;have h2:yielded all.toArray a'.tmps j=some (!b):=by
        unfold yielded;rw[h0];simp only[Option.bind_some,h1]
       simp[Region.wanted,BI,h2]
      ·rw[g2 y]at h1;have h2:yielded all.toArray a'.tmps j=none:=by
        unfold yielded;rw[h0];simp only[Option.bind_some,h1,undef]
       simp[Region.wanted,BI,h2]
    obtain⟨Tx,hvr,hU⟩:=Tx;simp only[Tx,if_false,Bool.false_eq_true];rw[hd];refine fin undef w' (y i) (λd _=>(hvr _).1.symm) ?_;rw[(hvr _).2,hU];rw[hU]at hh;exact hh
   ·have hw:Region.wanted o (yielded all.toArray a'.tmps)=true:=by
     replace OV:uw all bZ cQ i o.guard:=OV;cases BI:o.guard with
     |none=>simp[Region.wanted,BI]
     |some jb=>
      obtain⟨j,b⟩:=jb;rw[BI]at OV;obtain⟨g1,g2⟩:=OV;rw[Bool.and_eq_true,Bool.and_eq_true,Bool.not_eq_true']at g1;have hj:j∈cQ.getD i []:=ra.1 g1.1.1;have Hm:j≠i:=Nat.ne_of_beq_eq_false g1.1.2;obtain⟨d,xv⟩:=Option.isSome_iff_exists.1 g1.2;have h1:=hI.did j (OR j ((c4 j hj).resolve_left Hm)) d xv;rw[g2 y]at h1;have h2:yielded all.toArray a'.tmps j=some b:=by
       unfold yielded;rw[show((all.toArray[j]?).bind (·.dst))=some d from by simpa[ef]using xv];simp only[Option.bind_some,h1]
      simp[Region.wanted,BI,h2]
    simp only[hw,if_true];left;have kK:=KA o rfl a' w' y _ hI.fr (λj hj Hm=>hI.did j (OR j ((c4 j hj).resolve_left Hm))) a7l hh;obtain⟨alI,op0,ty0,alJ,alK,alL⟩:=o;refine kK Q _ ?_;rintro v w2 ⟨g,hv,xu⟩;rw[hd];exact fin v w2 g hv xu
 have hl0:cZ all.length ress L (λ_ _=>.nil) (ou all.length m cons (Array.replicate all.toArray.size false))=L:=by
  have KB:∀k,gW (Array.replicate all.toArray.size false) k=false:=by
   intro k;cases hb:gW (Array.replicate all.toArray.size false) k with
   |false=>rfl
   |true=>
    rw[rV,Array.getElem?_replicate]at hb;split at hb<;>cases hb
  have h1:ou all.length m cons (Array.replicate all.toArray.size false)=(List.range m).map (all.length+·):=by
   unfold ou;have hu:∀j,tu all.length cons (Array.replicate all.toArray.size false) j=false:=by
    intro j;unfold tu;rw[List.any_eq_false];intro k _;rw[KB];simp
   rw[List.range_add,List.filter_append];have p1:(List.range all.length).filter (λj=>(!(Nat.blt j all.length)||gW (Array.replicate all.toArray.size false) j)&&!(tu all.length cons (Array.replicate all.toArray.size false) j))=[]:=by
    rw[List.filter_eq_nil_iff];intro j hj;have:Nat.blt j all.length=true:=by simpa[Nat.blt,Nat.lt_iff_add_one_le]using List.mem_range.1 hj
    rw[this,KB];simp
   rw[p1,List.nil_append,List.filter_eq_self];intro j hj;obtain⟨k,_,rfl⟩:=List.mem_map.1 hj;have:Nat.blt (all.length+k) all.length=false:=by
    cases hb:Nat.blt (all.length+k) all.length with
    |false=>rfl
    |true=>
     have:all.length+k<all.length:=by simpa[Nat.blt,Nat.lt_iff_add_one_le]using hb
     omega
   rw[this,hu];rfl
  rw[h1];have h2:∀(q:List Nat),cZ all.length ress L (λ_ _=>.nil) (q.map (all.length+·))=q.map λk=>L.getD k .none:=by
   intro q
   induction q with
   |nil=>rfl
   |cons k r ih=>
    have:Nat.blt (all.length+k) all.length=false:=by
     cases hb:Nat.blt (all.length+k) all.length with
     |false=>rfl
     |true=>
      have:all.length+k<all.length:=by simpa[Nat.blt,Nat.lt_iff_add_one_le]using hb
      omega
    simp only[List.map_cons,cZ,this,cond_false,ih,Nat.add_sub_cancel_left];rfl
  rw[h2,←hL];apply List.ext_getElem
  ·simp
  ·intro i h1 h2;simp at h1;simp[h1]
 have KB:∀k,gW (Array.replicate all.toArray.size false) k=true→False:=by
  intro k hb;rw[rV,Array.getElem?_replicate]at hb;split at hb<;>cases hb
 refine key all.length (Array.replicate all.toArray.size false) a _ (λ_ _=>.nil) ⟨by simp,H,λi hi=>(KB i hi).elim,λi o hi=>(KB i hi).elim,?_,λk e he _=>hold k e he⟩ (by simp);rw[hl0];exact hS.below ⟨rfl,rfl,rfl,Nat.le_refl _,λ_ _=>rfl⟩
theorem a7p{P:Program}{n id:Nat}{all:List Oper}{Q:Exit→Act→World→Prop}{a:Act}{w wE:World}{base:SF}{M:Av}{X:List Nat}{L:List aB}(N m:Nat)(bZ:Gm→List Value)(ress:Gm→List (List aB))(use cons cQ:List (List Nat))(fa:List (Nat×Nat×Value))
  (H:aj [] n base a)(hold:∀(k:Nat) e,fa[k]?=some e→a.tmps[e.1]?=some e.2.2)(px:A3 N all fa=true)(hS:SH M X wE L w)(hm:P.follows .mixedOrders=true)(hN:all.length=N)(hL:L.length=m)(jn:rU n base all=true)(lJ:yH all=true)(qv:yL N m all use cons cQ=true)(A6:gV N 0 λi=>uw all bZ cQ i ((all[i]?).bind (·.guard)))
  (xt:gV N 0 λj=>∀(y:Gm)(i:Nat)(g:Nat→Gh),i∉cQ.getD j []→(bZ (e9 y i g)).getD j undef=(bZ y).getD j undef∧(ress (e9 y i g)).getD j []=(ress y).getD j [])
  (A7:gV N 0 λi=>∀o,all[i]?=some o→∀a' w' y M',aj [] n base a'→(∀j∈cQ.getD i [],j≠i→∀d,ef all j=some d→a'.tmps[d]?=some ((bZ y).getD j undef))→(∀(k:Nat) e,fa[k]?=some e→(Nat.beq e.2.1 i||reach all N e.2.1 i)=true→a'.tmps[e.1]?=some e.2.2)→S0 M' (cZ N ress L y (use.getD i [])) w'→
   bg P (uv o) a' w' λv w2=>∃g:Nat→Gh,(∀d,ef all i=some d→v=(bZ (e9 y i g)).getD i undef)∧SH M' (aD (cZ N ress L y (use.getD i []))) w' ((ress (e9 y i g)).getD i []++cZ N ress L y ((use.getD i []).filter λj=>!(iC (cons.getD i []) j))) w2)
  (hK:∀a' w' y,aj [] n base a'→(∀i d,ef all i=some d→a'.tmps[d]?=some ((bZ y).getD i undef))→SH M X wE (cZ N ress L y (w9 N m cons)) w'→Q .normal a' w'):
  (Code.region id all.toArray true).wp P Q a w:=
  a0I N m bZ ress use cons cQ fa H hold px hS hm hN hL jn lJ qv xt ((A6.and A7).imp λ_ h=>.inr h) hK
theorem a7q{y:Gm}{g:Nat→Gh}{i k:Nat}{l:List Nat}(hi:i∉l)(hk:iC l k=true):e9 y i g k=y k:=a7g y g λe=>hi (e▸ra.1 hk)
def Eg(ks:List Nat)(y:Gm):Gm:=λk=>cond (iC ks k) (y k) (λ_=>.nil)
theorem a0S{P:Program}{n id:Nat}{all:List Oper}{a:Act}{w wE:World}{base:SF}{M:Av}{X:List Nat}{L:List aB}{N' R':eQ}{ES:List (Nat×eQ)}(N m:Nat)(bZ:Gm→List Value)(ress:Gm→List (List aB))(use cons cQ:List (List Nat))(fa:List (Nat×Nat×Value))
  (H:aj [] n base a)(hold:∀(k:Nat) e,fa[k]?=some e→a.tmps[e.1]?=some e.2.2)(px:A3 N all fa=true)(hS:SH M X wE L w)(hm:P.follows .mixedOrders=true)(hN:all.length=N)(hL:L.length=m)(jn:rU n base all=true)(lJ:yH all=true)(qv:yL N m all use cons cQ=true)(A6:gV N 0 λi=>uw all bZ cQ i ((all[i]?).bind (·.guard)))
  (xt:gV N 0 λj=>∀(y:Gm)(i:Nat)(g:Nat→Gh),i∉cQ.getD j []→(bZ (e9 y i g)).getD j undef=(bZ y).getD j undef∧(ress (e9 y i g)).getD j []=(ress y).getD j [])
  (A7:gV N 0 λi=>∀o,all[i]?=some o→∀a' w' y M',aj [] n base a'→(∀j∈cQ.getD i [],j≠i→∀d,ef all j=some d→a'.tmps[d]?=some ((bZ y).getD j undef))→(∀(k:Nat) e,fa[k]?=some e→(Nat.beq e.2.1 i||reach all N e.2.1 i)=true→a'.tmps[e.1]?=some e.2.2)→S0 M' (cZ N ress L y (use.getD i [])) w'→
   bg P (uv o) a' w' λv w2=>∃g:Nat→Gh,(∀d,ef all i=some d→v=(bZ (e9 y i g)).getD i undef)∧SH M' (aD (cZ N ress L y (use.getD i []))) w' ((ress (e9 y i g)).getD i []++cZ N ress L y ((use.getD i []).filter λj=>!(iC (cons.getD i []) j))) w2)
  (hK:∀a' w' y,aj [] n base a'→(∀i d,ef all i=some d→a'.tmps[d]?=some ((bZ y).getD i undef))→SH M X wE (cZ N ress L y (w9 N m cons)) w'→N' a' w'):(Code.region id all.toArray true).wp P (Qs N' ES R') a w:=a7p N m bZ ress use cons cQ fa H hold px hS hm hN hL jn lJ qv A6 xt A7 hK
theorem a7r{P:Program}{n id:Nat}{all:List Oper}{a:Act}{w wE:World}{base:SF}{M:Av}{X:List Nat}{L:List aB}{N' R':eQ}{ES:List (Nat×eQ)}{z:Code}(N m:Nat)(bZ:Gm→List Value)(ress:Gm→List (List aB))(use cons cQ:List (List Nat))(fa:List (Nat×Nat×Value))
  (H:aj [] n base a)(hold:∀(k:Nat) e,fa[k]?=some e→a.tmps[e.1]?=some e.2.2)(px:A3 N all fa=true)(hS:SH M X wE L w)(hm:P.follows .mixedOrders=true)(hN:all.length=N)(hL:L.length=m)(jn:rU n base all=true)(lJ:yH all=true)(qv:yL N m all use cons cQ=true)(A6:gV N 0 λi=>uw all bZ cQ i ((all[i]?).bind (·.guard)))
  (xt:gV N 0 λj=>∀(y:Gm)(i:Nat)(g:Nat→Gh),i∉cQ.getD j []→(bZ (e9 y i g)).getD j undef=(bZ y).getD j undef∧(ress (e9 y i g)).getD j []=(ress y).getD j [])
  (A7:gV N 0 λi=>∀o,all[i]?=some o→∀a' w' y M',aj [] n base a'→(∀j∈cQ.getD i [],j≠i→∀d,ef all j=some d→a'.tmps[d]?=some ((bZ y).getD j undef))→(∀(k:Nat) e,fa[k]?=some e→(Nat.beq e.2.1 i||reach all N e.2.1 i)=true→a'.tmps[e.1]?=some e.2.2)→S0 M' (cZ N ress L y (use.getD i [])) w'→
   bg P (uv o) a' w' λv w2=>∃g:Nat→Gh,(∀d,ef all i=some d→v=(bZ (e9 y i g)).getD i undef)∧SH M' (aD (cZ N ress L y (use.getD i []))) w' ((ress (e9 y i g)).getD i []++cZ N ress L y ((use.getD i []).filter λj=>!(iC (cons.getD i []) j))) w2)
  (hK:∀a' w' y,aj [] n base a'→(∀i d,ef all i=some d→a'.tmps[d]?=some ((bZ y).getD i undef))→SH M X wE (cZ N ress L y (w9 N m cons)) w'→z.wp P (Qs N' ES R') a' w'):(Code.seq (.region id all.toArray true) z).wp P (Qs N' ES R') a w:=BA (a0S N m bZ ress use cons cQ fa H hold px hS hm hN hL jn lJ qv A6 xt A7 hK)
theorem a7s{P:Program}{n id:Nat}{all:List Oper}{a:Act}{w wE:World}{base:SF}{M:Av}{X:List Nat}{L:List aB}{N' R':eQ}{ES:List (Nat×eQ)}(N m:Nat)(bZ:Gm→List Value)(ress:Gm→List (List aB))(use cons cQ:List (List Nat))(fa:List (Nat×Nat×Value))
  (H:aj [] n base a)(hold:∀(k:Nat) e,fa[k]?=some e→a.tmps[e.1]?=some e.2.2)(px:A3 N all fa=true)(hS:SH M X wE L w)(hm:P.follows .mixedOrders=true)(hN:all.length=N)(hL:L.length=m)(jn:rU n base all=true)(lJ:yH all=true)(qv:yL N m all use cons cQ=true)
  (xt:gV N 0 λj=>∀(y:Gm)(i:Nat)(g:Nat→Gh),i∉cQ.getD j []→(bZ (e9 y i g)).getD j undef=(bZ y).getD j undef∧(ress (e9 y i g)).getD j []=(ress y).getD j [])
  (hA:gV N 0 λi=>Kw all bZ ress use cQ i ((all[i]?).bind (·.guard))∨(uw all bZ cQ i ((all[i]?).bind (·.guard))∧∀o,all[i]?=some o→∀a' w' y M',aj [] n base a'→(∀j∈cQ.getD i [],j≠i→∀d,ef all j=some d→a'.tmps[d]?=some ((bZ y).getD j undef))→(∀(k:Nat) e,fa[k]?=some e→(Nat.beq e.2.1 i||reach all N e.2.1 i)=true→a'.tmps[e.1]?=some e.2.2)→S0 M' (cZ N ress L y (use.getD i [])) w'→
   bg P (uv o) a' w' λv w2=>∃g:Nat→Gh,(∀d,ef all i=some d→v=(bZ (e9 y i g)).getD i undef)∧SH M' (aD (cZ N ress L y (use.getD i []))) w' ((ress (e9 y i g)).getD i []++cZ N ress L y ((use.getD i []).filter λj=>!(iC (cons.getD i []) j))) w2))
  (hK:∀a' w' y,aj [] n base a'→(∀i d,ef all i=some d→a'.tmps[d]?=some ((bZ y).getD i undef))→SH M X wE (cZ N ress L y (w9 N m cons)) w'→N' a' w'):(Code.region id all.toArray true).wp P (Qs N' ES R') a w:=a0I N m bZ ress use cons cQ fa H hold px hS hm hN hL jn lJ qv xt hA hK
theorem a7t{P:Program}{n id:Nat}{all:List Oper}{a:Act}{w wE:World}{base:SF}{M:Av}{X:List Nat}{L:List aB}{N' R':eQ}{ES:List (Nat×eQ)}{z:Code}(N m:Nat)(bZ:Gm→List Value)(ress:Gm→List (List aB))(use cons cQ:List (List Nat))(fa:List (Nat×Nat×Value))
  (H:aj [] n base a)(hold:∀(k:Nat) e,fa[k]?=some e→a.tmps[e.1]?=some e.2.2)(px:A3 N all fa=true)(hS:SH M X wE L w)(hm:P.follows .mixedOrders=true)(hN:all.length=N)(hL:L.length=m)(jn:rU n base all=true)(lJ:yH all=true)(qv:yL N m all use cons cQ=true)
  (xt:gV N 0 λj=>∀(y:Gm)(i:Nat)(g:Nat→Gh),i∉cQ.getD j []→(bZ (e9 y i g)).getD j undef=(bZ y).getD j undef∧(ress (e9 y i g)).getD j []=(ress y).getD j [])
  (hA:gV N 0 λi=>Kw all bZ ress use cQ i ((all[i]?).bind (·.guard))∨(uw all bZ cQ i ((all[i]?).bind (·.guard))∧∀o,all[i]?=some o→∀a' w' y M',aj [] n base a'→(∀j∈cQ.getD i [],j≠i→∀d,ef all j=some d→a'.tmps[d]?=some ((bZ y).getD j undef))→(∀(k:Nat) e,fa[k]?=some e→(Nat.beq e.2.1 i||reach all N e.2.1 i)=true→a'.tmps[e.1]?=some e.2.2)→S0 M' (cZ N ress L y (use.getD i [])) w'→
   bg P (uv o) a' w' λv w2=>∃g:Nat→Gh,(∀d,ef all i=some d→v=(bZ (e9 y i g)).getD i undef)∧SH M' (aD (cZ N ress L y (use.getD i []))) w' ((ress (e9 y i g)).getD i []++cZ N ress L y ((use.getD i []).filter λj=>!(iC (cons.getD i []) j))) w2))
  (hK:∀a' w' y,aj [] n base a'→(∀i d,ef all i=some d→a'.tmps[d]?=some ((bZ y).getD i undef))→SH M X wE (cZ N ress L y (w9 N m cons)) w'→z.wp P (Qs N' ES R') a' w'):(Code.seq (.region id all.toArray true) z).wp P (Qs N' ES R') a w:=BA (a7s N m bZ ress use cons cQ fa H hold px hS hm hN hL jn lJ qv xt hA hK)
def Tz{H:Type}(P:Program)(W:World)(enc:TypeId×Value→H)(t:TypeId){α:Type}(T:Ty α)(wf:α→Prop):Prop:=
 ∀(n:Nat)(cs:List Value) x,DataW.trod enc P W 0 (λ_=>true) true n t cs=some x→∃(v:α)(g:Nat→Gh),cs=T.enc v g∧T.bP F0 W v g∧wf v
theorem a0T{w:World}{a:Addr}{v:Value}(h:w.cell? a=some v):a.block<w.heap.size:=by
 unfold World.cell? at h;rcases Nat.lt_or_ge a.block w.heap.size with h1|h1
 ·exact h1
 ·rw[Array.getElem?_eq_none h1]at h;simp at h
theorem Addr.a7u(b o i:Nat):(⟨b,o,none⟩:Addr).add i=⟨b,o+i,none⟩:=by
 unfold Addr.add;split
 ·rename_i h;subst h;rfl
 ·rfl
theorem a7v{α:Type}{B:Type}[Nonempty B]:∀{n:Nat}(p:Nat→α→B→Prop),(∀i,i<n→∃v b,p i v b)→∃(l:List α)(s:Nat→B),∃(hl:l.length=n),∀i (h:i<n),p i (l[i]'(by omega)) (s i):=by
 intro n p h
 classical
 rcases Nat.eq_zero_or_pos n with rfl|h0
 ·exact⟨[],λ_=>Classical.choice inferInstance,rfl,λi h=>absurd h (by omega)⟩
 ·obtain⟨v0,b0,_⟩:=h 0 h0;have:Nonempty α:=⟨v0⟩;have:Nonempty B:=⟨b0⟩
  let f:Nat→α:=λi=>if hi:i<n then(h i hi).choose else v0
  let s:Nat→B:=λi=>if hi:i<n then(h i hi).choose_spec.choose else b0
  refine⟨(List.range n).map f,s,by simp,λi hi=>?_⟩;have:=(h i hi).choose_spec.choose_spec;simpa[f,s,hi]using this
section
variable {H:Type} {P:Program} {W:World} {enc:TypeId×Value→H}
theorem ux{t:TypeId}{k:IntKind}(hu:P.underlying t=some (.int k)):Tz P W enc t (tI k) λv=>(Lit.int k v).wf=true:=by
 intro n cs x h;cases n with
 |zero=>simp[DataW.trod]at h
 |succ n=>
  unfold DataW.trod at h;rw[hu]at h;split at h<;>first|(rename_i he _;cases he;done)|skip
  all_goals simp_all
  all_goals first
   |(obtain⟨⟨rfl,hw⟩,_⟩:=h;exact⟨_,λ_=>.nil,rfl,trivial,hw⟩)
   |skip
theorem OW{t:TypeId}(hu:P.underlying t=some .bool):Tz P W enc t tB λ_=>True:=by
 intro n cs x h;cases n with
 |zero=>simp[DataW.trod]at h
 |succ n=>
  unfold DataW.trod at h;rw[hu]at h;rcases cs with _|⟨c,_|⟨c2,r⟩⟩
  ·simp at h
  ·cases c<;>simp at h;rename_i b;exact⟨b,λ_=>.nil,rfl,trivial,trivial⟩
  ·simp at h
theorem gX{cs e r:List Value}{o k c:Nat}(hc:c=k)(h:(cs.drop o).take c=e)(h2:cs.drop (o+k)=r):cs.drop o=e++r:=by
 subst hc;rw[←List.take_append_drop c (cs.drop o),h,List.drop_drop,h2]
theorem wa{cs:List Value}{o:Nat}(h:cs.length=o):cs.drop o=[]:=List.drop_eq_nil_of_le (by omega)
end
theorem a7w{P:Program}{W:World}{name:String}{k:IntKind}{zs:List Int}{g:Nat}{t e:TypeId}{n:Nat}
  (hg:P.globalNamed name=some g)(TA:(P.globals[g]?).map (·.type)=some t)(ht:P.underlying t=some (.array n e))(he:P.underlying e=some (.int k))(K9:P.cellsOf e=1)(TC:P.cellsOf t=n)
  (hn:zs.length=n)(h:Lib.VarReads P W name (Lib.tabData k zs))(p7:Nat.blt 0 n=true):aM (tI k) F0 W zs (Gh.mk (some ⟨g,0,none⟩) n λ_ _=>.nil):=by
 obtain⟨g',t',cs,fuel,p,yF,TD,TE,hd⟩:=h;obtain rfl:=Option.some.inj (hg.symm.trans yF);obtain rfl:=Option.some.inj (TA.symm.trans TD);have Hn:Lib.TabIs P W name k zs:=by unfold Lib.TabIs;rw[TE,←Lib.cells_of_tab ht he K9 TC hd]
 have hp:0<n:=by simpa[Nat.blt,Nat.lt_iff_add_one_le]using p7
 refine⟨⟨λ_=>rfl,λ_=>?_,λ_ h=>h.elim,λi hi j v hv=>?_,Nat.le_of_eq hn⟩,λi hi=>trivial⟩
 ·exact a0T (Hn.cell hg 0 (by omega))
 ·have hj:j=0:=by
   rcases j with _|j
   ·rfl
   ·simp[tI,Ty.flat]at hv
  subst hj;have h1:v=.int k zs[i]:=by simpa[tI,Ty.flat]using hv.symm
  subst h1;have:=Hn.cell hg i hi;have h2:zs.getD i 0=zs[i]:=by simp[List.getD,List.getElem?_eq_getElem hi]
  rw[h2]at this;have h3:i*(tI k).z=i:=Nat.mul_one i;show W.cell? ⟨g,0+i*(tI k).z+0,none⟩=_;rw[h3,Nat.zero_add];exact this
theorem a7x{P:Program}{f:FuncId}{args:Array Value}{v:Value}{w:World}{L:List aB}(hL:S0 F0 L w∧aD L=[])(h:S0 F0 L w→Calls P f args w λe rO=>∃u,e=.returned u∧u=v∧SH F0 (aD L) w [] rO):
  Calls P f args w (Pure v w):=by
 refine(h hL.1).mono ?_;rintro e rO ⟨u,rfl,rfl,hS⟩;refine⟨rfl,?_⟩;have:=hS.kp;rw[hL.2]at this;exact this.below
def T(D:List Deferred)(n:Nat)(M:Av)(X:List Nat)(w0:World)(l:SF)(L:List aB)(N:eQ):Prop:=
 ∀a w,aj D n l a→SH M X w0 L w→N a w
def fz:List Nat→List Value→SF
 |k::ks,v::vs=>(k,[],v)::fz ks vs
 |_,_=>[]
structure Pk(S:World→Prop) where
 v:Option Value
 p:Ob
 h:∀w,S w→p w
def gK{S:World→Prop}:List (Pk S)→List Value
 |[]=>[]
 |q::r=>match q.v with
  |some v=>v::gK r
  |none=>gK r
def gM{S:World→Prop}:List (Pk S)→List Ob
 |[]=>[]
 |q::r=>q.p::gM r
theorem yN{S:World→Prop}{w:World}(h:S w):∀q:List (Pk S),tm (gM q) w
 |[]=>trivial
 |q::r=>⟨q.h w h,yN h r⟩
section
variable {S:World→Prop}
def kh{p:Prop}(h:p):Pk S:=⟨none,λ_=>p,λ_ _=>h⟩
def kc{P:Program}{f:FuncId}{args:Array Value}{v:Value}(h:Bv P f args v):Pk S:=⟨some v,λw=>lG P f args v w,λ_ _=>h.b⟩
def kr{P:Program}{f:FuncId}{args:Array Value}{v:Value}(h:∀w,S w→lG P f args v w):Pk S:=⟨some v,λw=>lG P f args v w,h⟩
def ka{b:Addr}{v:Value}(h:∀w,S w→c9 b v w):Pk S:=⟨some v,c9 b v,h⟩
def kn{b o:Nat}{cs:List Value}(h:∀w,S w→bH b o cs 0 w):Pk S:=⟨some (.agg ⟨cs⟩),bH b o cs 0,h⟩
def p8(c:Prop){p:Prop}(h:c→p):Pk S:=⟨none,λ_=>c→p,λ_ _=>h⟩
def gg(c:Prop){P:Program}{f:FuncId}{args:Array Value}{v:Value}(h:c→Bv P f args v):Pk S:=⟨some v,λw=>c→lG P f args v w,λ_ _ hc=>(h hc).b⟩
def eY(c:Prop){P:Program}{f:FuncId}{args:Array Value}{v:Value}(h:∀w,S w→c→lG P f args v w):Pk S:=⟨some v,λw=>c→lG P f args v w,h⟩
end
section
variable {D:List Deferred} {n:Nat} {M:Av} {X:List Nat} {w0:World} {l:SF} {L:List aB} {N R:eQ} {ES:List (Nat×eQ)} {P:Program} {Q:Exit→Act→World→Prop} {all:List Oper} {id:Nat}
def kb(k o:Nat){b:Nat}{cs:List Value}{v:Value}(hk:L[k]?=some (.my b cs):=by rfl)(hv:cs[o]?=some v:=by rfl):Pk (SH M X w0 L):=⟨some v,c9 ⟨b,o,none⟩ v,λ_ h=>(h.bk k hk).c9 hv⟩
def ko(k o:Nat){b:Nat}{cs:List Value}{v:Value}(hk:L[k]?=some (.ro b cs):=by rfl)(hv:cs[o]?=some v:=by rfl):Pk (SH M X w0 L):=⟨some v,c9 ⟨b,o,none⟩ v,λ_ h=>(h.ro k hk).c9 hv⟩
def kE(k n:Nat){b:Nat}{cs:List Value}(hk:L[k]?=some (.my b cs):=by rfl):Pk (SH M X w0 L):=⟨some (.agg ⟨cs.take n⟩),bH b 0 (cs.take n) 0,λ_ h=>(h.bk k hk).eW (by simp[List.length_take,List.take_eq_take_iff])⟩
theorem aG{a:Act}{w:World}(H:aj D n l a)(hS:SH M X w0 L w)(h:T D n M X w0 l L N):N a w:=h a w H hS
theorem cy{y:Code}(ks:List Nat)(vs:List Value)(q:List (Pk (SH M X w0 L)))(h:T D n M X w0 (fz ks vs) L λa w=>y.wp P (Qs N ES R) a w)
  (he:jG P n all (gK q) l ks=some (fz ks vs,gM q):=by kernel_rfl):T D n M X w0 l L λa w=>(Code.seq (.region id all.toArray false) y).wp P (Qs N ES R) a w:=
 λ_ _ H hS=>GS (gK q) ks _ (gM q) H he (yN hS q) λ_ _ H' hb=>h _ _ H' (hS.below hb)
theorem py(ks:List Nat)(vs:List Value)(q:List (Pk (SH M X w0 L)))(h:T D n M X w0 (fz ks vs) L N)
  (he:jG P n all (gK q) l ks=some (fz ks vs,gM q):=by kernel_rfl):T D n M X w0 l L λa w=>(Code.region id all.toArray false).wp P (Qs N ES R) a w:=
 λ_ _ H hS=>SS (gK q) ks _ (gM q) H he (yN hS q) λ_ _ H' hb=>h _ _ H' (hS.below hb)
theorem jc{y:Code}(ks:List Nat)(vs:List Value)(q:List (Pk (SH M X w0 L)))(h:T D n M X w0 (fz ks vs) L λa w=>y.wp P (Qs N ES R) a w)
  (he:jG P n all (gK q) l ks=some (fz ks vs,gM q):=by kernel_rfl)(hm:P.follows .mixedOrders=true:=by kernel_rfl)(hB:Region.lexB .any all.toArray=true:=by kernel_rfl):T D n M X w0 l L λa w=>(Code.seq (.region id all.toArray true) y).wp P (Qs N ES R) a w:=
 λ_ _ H hS=>a6z (gK q) ks _ (gM q) H hm hB he (yN hS q) λ_ _ H' hb=>h _ _ H' (hS.below hb)
theorem OX(ks:List Nat)(vs:List Value)(q:List (Pk (SH M X w0 L)))(h:T D n M X w0 (fz ks vs) L N)
  (he:jG P n all (gK q) l ks=some (fz ks vs,gM q):=by kernel_rfl)(hm:P.follows .mixedOrders=true:=by kernel_rfl)(hB:Region.lexB .any all.toArray=true:=by kernel_rfl):T D n M X w0 l L λa w=>(Code.region id all.toArray true).wp P (Qs N ES R) a w:=
 λ_ _ H hS=>a03 (gK q) ks _ (gM q) H hm hB he (yN hS q) λ_ _ H' hb=>h _ _ H' (hS.below hb)
theorem gh{i:Nat}(j:Nat)(ks:List Nat)(vs:List Value)(q:List (Pk (SH M X w0 L)))(h:T D n M X w0 (fz ks vs) L λa w=>wpList P all.toArray Q (all.drop j) a w)
  (he:GV P n all i j (gK q) l ks=some (fz ks vs,gM q):=by kernel_rfl)(dP:Nat.ble i j=true:=by rfl):T D n M X w0 l L λa w=>wpList P all.toArray Q (all.drop i) a w:=
 λ_ _ H hS=>SV i j (gK q) ks _ (gM q) H dP he (yN hS q) λ_ _ H' hb=>h _ _ H' (hS.below hb)
theorem dC(h:T D n M X w0 l L λa w=>wpList P all.toArray (Qs N ES R) (all.drop 0) a w):T D n M X w0 l L λa w=>(Code.region id all.toArray false).wp P (Qs N ES R) a w:=
 λ_ _ H hS=>a05 (h _ _ H hS)
theorem aF{y:Code}(h:T D n M X w0 l L λa w=>wpList P all.toArray (Qs (λa w=>y.wp P (Qs N ES R) a w) ES R) (all.drop 0) a w):T D n M X w0 l L λa w=>(Code.seq (.region id all.toArray false) y).wp P (Qs N ES R) a w:=
 λ_ _ H hS=>BA (a05 (h _ _ H hS))
theorem ay{i:Nat}(h:T D n M X w0 l L N)(hi:Nat.ble all.length i=true:=by rfl):T D n M X w0 l L λa w=>wpList P all.toArray (Qs N ES R) (all.drop i) a w:=
 λ_ _ H hS=>a6D hi (h _ _ H hS)
theorem ah{x y:Code}(h:T D n M X w0 l L λa w=>x.wp P (Qs (λa w=>y.wp P (Qs N ES R) a w) ES R) a w):T D n M X w0 l L λa w=>(Code.seq x y).wp P (Qs N ES R) a w:=
 λ_ _ H hS=>BA (h _ _ H hS)
theorem ag(h:T D n M X w0 l L N):T D n M X w0 l L λa w=>Code.skip.wp P (Qs N ES R) a w:=λ_ _ H hS=>a6v (h _ _ H hS)
theorem aC{i:Nat}{c:Code}(h:T D n M X w0 l L λa w=>c.wp P (Qs N ((i,N)::ES) R) a w):T D n M X w0 l L λa w=>(Code.block i c).wp P (Qs N ES R) a w:=λ_ _ H hS=>a6y (h _ _ H hS)
theorem aL(h:T D n M X w0 l L R):T D n M X w0 l L λa w=>Code.ret.wp P (Qs N ES R) a w:=λ_ _ H hS=>a6w (h _ _ H hS)
theorem bl{i:Nat}{E:eQ}(h:T D n M X w0 l L E)(hi:DY ES i=some E:=by rfl):T D n M X w0 l L λa w=>(Code.exit i).wp P (Qs N ES R) a w:=λ_ _ H hS=>a6x hi (h _ _ H hS)
theorem rX{c:Operand}{x y:Code}{t:Bool}(h1:t=true→T D n M X w0 l L λa w=>x.wp P (Qs N ES R) a w)(h2:t=false→T D n M X w0 l L λa w=>y.wp P (Qs N ES R) a w)(hc:ev l [] c=some (.bool t):=by rfl):
  T D n M X w0 l L λa w=>(Code.cond c x y).wp P (Qs N ES R) a w:=λ_ _ H hS=>rR H hc (λh=>h1 h _ _ H hS) (λh=>h2 h _ _ H hS)
theorem Eh{α:Type}{c:Operand}{x y:Code}{t:Bool}{p q r:α}(hm:cond t p q=r)(h1:p=r→T D n M X w0 l L λa w=>x.wp P (Qs N ES R) a w)(h2:q=r→T D n M X w0 l L λa w=>y.wp P (Qs N ES R) a w)(hc:ev l [] c=some (.bool t):=by rfl):
  T D n M X w0 l L λa w=>(Code.cond c x y).wp P (Qs N ES R) a w:=λ_ _ H hS=>rR H hc (λh=>h1 (bT h hm) _ _ H hS) (λh=>h2 (bF h hm) _ _ H hS)
theorem a0U{α:Type}{c:Operand}{x y:Code}{t:Bool}{p:Option α}{r:α}(hm:cond t p none=some r)(h1:p=some r→T D n M X w0 l L λa w=>x.wp P (Qs N ES R) a w)(hc:ev l [] c=some (.bool t):=by rfl):
  T D n M X w0 l L λa w=>(Code.cond c x y).wp P (Qs N ES R) a w:=Eh hm h1 (λh=>cD h) hc
theorem Ei{α:Type}{c:Operand}{x y:Code}{t:Bool}{q:Option α}{r:α}(hm:cond t none q=some r)(h2:q=some r→T D n M X w0 l L λa w=>y.wp P (Qs N ES R) a w)(hc:ev l [] c=some (.bool t):=by rfl):
  T D n M X w0 l L λa w=>(Code.cond c x y).wp P (Qs N ES R) a w:=Eh hm (λh=>cD h) h2 hc
theorem ai(ks:List Nat)(h:T D n M X w0 l (eE L ks) N)(hk:kM L ks=true:=by rfl):T D n M X w0 l L N:=λ_ _ H hS=>h _ _ H (hS.aV ks hk)
theorem da{α:Type}(E:TypeId)(Y:Ty α)(h:T D n M X w0 l (.own E Y ([]:List α) .nil::L) N):T D n M X w0 l L N:=λ_ _ H hS=>h _ _ H (hS.E7 E Y)
theorem kN{α:Type}{E:TypeId}{Y:Ty α}{q:List α}{g:Gh}(ks:List Nat)(h:T D n M X w0 l (.im Y q g::(eE L ks).tail) N)(hL:eE L ks=.own E Y q g::(eE L ks).tail:=by rfl)(hk:kM L ks=true:=by rfl):T D n M X w0 l L N:=
 λ_ _ H hS=>h _ _ H (SH.gz (by rw[←hL];exact hS.aV ks hk))
def Cu(D:List Deferred)(n:Nat)(M:Av)(X:List Nat)(w0:World)(l:SF)(L:List aB):eQ:=λa w=>aj D n l a∧SH M X w0 L w
theorem t_e{l':SF}{L':List aB}(ks:List Nat)(hl:aK l ks=some l':=by kernel_rfl)(hL:L=L':=by rfl):T D n M X w0 l L (Cu D n M X w0 l' L'):=λ_ _ H hS=>⟨aj.aK H hl,by subst hL;exact hS⟩
def Cg{γ:Type}(D:List Deferred)(n:Nat)(M:Av)(X:List Nat)(w0:World)(l:γ→SF)(L:γ→List aB):eQ:=λa w=>∃g,aj D n (l g) a∧SH M X w0 (L g) w
theorem TF{γ:Type}{x y:Code}(ks:List Nat)(vs:γ→List Value)(L':γ→List aB)(h:T D n M X w0 l L λa w=>x.wp P (Qs (Cg D n M X w0 (λg=>fz ks (vs g)) L') ES R) a w)(h2:∀g,T D n M X w0 (fz ks (vs g)) (L' g) λa w=>y.wp P (Qs N ES R) a w):
  T D n M X w0 l L λa w=>(Code.seq x y).wp P (Qs N ES R) a w:=λ_ _ H hS=>eR _ (h _ _ H hS) λa w ⟨g,h⟩=>h2 g a w h.1 h.2
theorem a7y{γ:Type}{l':γ→SF}{L':γ→List aB}(g:γ)(ks:List Nat)(hl:aK l ks=some (l' g):=by kernel_rfl)(hL:L=L' g:=by rfl):T D n M X w0 l L (Cg D n M X w0 l' L'):=λ_ _ H hS=>⟨g,aj.aK H hl,by rw[←hL];exact hS⟩
theorem fb{γ:Type}{i d:Nat}{o:Oper}{F:γ→Value}{E:γ→List aB}(kt rt ks:List Nat)(vs:List Value)
  (hs:∀a w,aj D n l a→S0 (ep M (eE L rt)) (eE L kt) w→bg P o a w λv w'=>∃g,v=F g∧SH (ep M (eE L rt)) (aD (eE L kt)) w (E g) w')
  (h:∀g,T D n M X w0 ((d,[],F g)::fz ks vs) (E g++eE L rt) λa w=>wpList P all.toArray Q (all.drop (i+1)) a w)
  (ho:all[i]?=some o:=by rfl)(hg:o.guard=none:=by rfl)(rS:o.dst=some d:=by rfl)(hd:Nat.blt d n=true:=by rfl)(hk:∀v,aK (oX l d [] v) (d::ks)=some ((d,[],v)::fz ks vs):=by intro v;kernel_rfl)
  (h1:kM L kt=true:=by rfl)(h2:tp L rt kt=true:=by rfl)(h3:kM L rt=true:=by rfl):T D n M X w0 l L λa w=>wpList P all.toArray Q (all.drop i) a w:=
 λ_ w H hS=>eZ (d::ks) _ H ho hg rS hd (hs _ w H (hS.hand kt rt h1 h2)) hk λ_ _ _ H' ⟨g,e,hq⟩=>h g _ _ (e▸H') (hS.join kt rt h3 h2 hq)
theorem uy{i d:Nat}{o:Oper}{v:Value}{E:List aB}(kt rt ks:List Nat)(vs:List Value)
  (hs:∀a w,aj D n l a→S0 (ep M (eE L rt)) (eE L kt) w→bg P o a w λu w'=>u=v∧SH (ep M (eE L rt)) (aD (eE L kt)) w E w')
  (h:T D n M X w0 ((d,[],v)::fz ks vs) (E++eE L rt) λa w=>wpList P all.toArray Q (all.drop (i+1)) a w)
  (ho:all[i]?=some o:=by rfl)(hg:o.guard=none:=by rfl)(rS:o.dst=some d:=by rfl)(hd:Nat.blt d n=true:=by rfl)(hk:∀v,aK (oX l d [] v) (d::ks)=some ((d,[],v)::fz ks vs):=by intro v;kernel_rfl)
  (h1:kM L kt=true:=by rfl)(h2:tp L rt kt=true:=by rfl)(h3:kM L rt=true:=by rfl):T D n M X w0 l L λa w=>wpList P all.toArray Q (all.drop i) a w:=
 λ_ w H hS=>eZ (d::ks) _ H ho hg rS hd (hs _ w H (hS.hand kt rt h1 h2)) hk λ_ _ _ H' ⟨e,hq⟩=>h _ _ (e▸H') (hS.join kt rt h3 h2 hq)
theorem pz{i:Nat}{o:Oper}{E:List aB}(kt rt ks:List Nat)(vs:List Value)
  (hs:∀a w,aj D n l a→S0 (ep M (eE L rt)) (eE L kt) w→bg P o a w λ_ w'=>SH (ep M (eE L rt)) (aD (eE L kt)) w E w')
  (h:T D n M X w0 (fz ks vs) (E++eE L rt) λa w=>wpList P all.toArray Q (all.drop (i+1)) a w)
  (ho:all[i]?=some o:=by rfl)(hg:o.guard=none:=by rfl)(rS:o.dst=none:=by rfl)(hk:aK l ks=some (fz ks vs):=by rfl)
  (h1:kM L kt=true:=by rfl)(h2:tp L rt kt=true:=by rfl)(h3:kM L rt=true:=by rfl):T D n M X w0 l L λa w=>wpList P all.toArray Q (all.drop i) a w:=
 λ_ w H hS=>vZ ks _ H ho hg rS (hs _ w H (hS.hand kt rt h1 h2)) hk λ_ _ H' ⟨_,hq⟩=>h _ _ H' (hS.join kt rt h3 h2 hq)
end
section
variable {D:List Deferred} {n:Nat} {M:Av} {X:List Nat} {w0:World} {l:SF} {L:List aB} {N R:eQ} {ES:List (Nat×eQ)} {P:Program} {Q:Exit→Act→World→Prop} {all:List Oper} {id:Nat}
end
def Ej(all:List Oper)(vs:List Value)(i:Nat):List Nat→SF
 |[]=>[]
 |j::r=>match Nat.beq j i,ef all j with
  |false,some d=>(d,[],vs.getD j undef)::Ej all vs i r
  |_,_=>Ej all vs i r
theorem OY{D:List Deferred}{n:Nat}{base:SF}{all:List Oper}{vs:List Value}{i:Nat}{a:Act}(H:aj D n base a):∀l:List Nat,(∀j∈l,j≠i→∀d,ef all j=some d→a.tmps[d]?=some (vs.getD j undef))→aj D n (Ej all vs i l++base) a
 |[],_=>H
 |j::r,h=>by
  have ih:=OY H r λk hk=>h k (List.mem_cons_of_mem _ hk);unfold Ej;split
  ·rename_i d hj hd;exact ih.add (h j List.mem_cons_self (Nat.ne_of_beq_eq_false hj) d hd)
  ·exact ih
section
variable {P:Program} {n N:Nat} {base:SF} {all:List Oper} {bZ:Gm→List Value} {ress:Gm→List (List aB)} {use cons cQ:List (List Nat)} {fa:List (Nat×Nat×Value)} {L:List aB} {i j:Nat}
theorem lh(h:∀y,(bZ y).getD j undef=(bZ (Eg (cQ.getD j []) y)).getD j undef∧(ress y).getD j []=(ress (Eg (cQ.getD j []) y)).getD j []:=by exact λ_=>⟨rfl,rfl⟩):
  ∀(y:Gm)(i:Nat)(g:Nat→Gh),i∉cQ.getD j []→(bZ (e9 y i g)).getD j undef=(bZ y).getD j undef∧(ress (e9 y i g)).getD j []=(ress y).getD j []:=by
 intro y i g hi;have e:Eg (cQ.getD j []) (e9 y i g)=Eg (cQ.getD j []) y:=by
  funext k;unfold Eg;cases hb:iC (cQ.getD j []) k with
  |false=>rfl
  |true=>simp only[cond_true];exact a7q hi hb
 rw[(h (e9 y i g)).1,(h (e9 y i g)).2,e,←(h y).1,←(h y).2];exact⟨rfl,rfl⟩
def OZ(bZ:Gm→List Value)(ress:Gm→List (List aB))(cQ:List (List Nat))(j:Nat):Prop:=∀y,(bZ y).getD j undef=(bZ (Eg (cQ.getD j []) y)).getD j undef∧(ress y).getD j []=(ress (Eg (cQ.getD j []) y)).getD j []
theorem TG(h:gV N 0 (OZ bZ ress cQ)):gV N 0 λj=>∀(y:Gm)(i:Nat)(g:Nat→Gh),i∉cQ.getD j []→(bZ (e9 y i g)).getD j undef=(bZ y).getD j undef∧(ress (e9 y i g)).getD j []=(ress y).getD j []:=
 gV.imp (λ_ h=>lh h) h
def obH:List Ob→Option Ob
 |[]=>none
 |o::_=>some o
theorem se(q:∀(y:Gm)(M':Av),List (Pk λw=>S0 M' (cZ N ress L y (use.getD i [])) w))
  (he:∀(y:Gm)(M':Av),(all[i]?).bind (λo=>Bz P (Ej all (bZ y) i (cQ.getD i [])++base) [] o.op (gK (q y M')))=some ⟨(bZ (e9 y i (gL []))).getD i undef,[],obH (gM (q y M'))⟩:=by intros;kernel_rfl)
  (hr:∀y,(ress y).getD i []=[]:=by exact λ_=>rfl)(hc:((use.getD i []).filter λj=>!(iC (cons.getD i []) j))=use.getD i []:=by rfl):
  ∀o,all[i]?=some o→∀a' w' y M',aj [] n base a'→(∀j∈cQ.getD i [],j≠i→∀d,ef all j=some d→a'.tmps[d]?=some ((bZ y).getD j undef))→(∀(k:Nat) e,fa[k]?=some e→(Nat.beq e.2.1 i||reach all N e.2.1 i)=true→a'.tmps[e.1]?=some e.2.2)→S0 M' (cZ N ress L y (use.getD i [])) w'→
   bg P (uv o) a' w' λv w2=>∃g:Nat→Gh,(∀d,ef all i=some d→v=(bZ (e9 y i g)).getD i undef)∧SH M' (aD (cZ N ress L y (use.getD i []))) w' ((ress (e9 y i g)).getD i []++cZ N ress L y ((use.getD i []).filter λj=>!(iC (cons.getD i []) j))) w2:=by
 intro o ho a' w' y M' Hb hv _ hS;have h:=he y M';rw[ho,Option.bind_some]at h;obtain⟨d,op,ty,pos,after,gd⟩:=o;refine bg.mono (pu (o:=⟨d,op,ty,pos,after,none⟩) (gK (q y M')) _ _ [] (OY Hb _ hv) rfl h λob e=>?_) λv w2 hq=>⟨gL [],λ_ _=>hq.1,?_⟩
 ·have h1:=yN hS (q y M');cases hp:gM (q y M')with
  |nil=>rw[hp]at e;cases e
  |cons x r=>rw[hp]at e h1;cases e;exact h1.1
 ·rw[hr,hc,List.nil_append];exact hS.below hq.2.below
theorem bA(he:∀(y:Gm),(all[i]?).bind (λo=>Bz P (Ej all (bZ y) i (cQ.getD i [])++base) [] o.op [])=some ⟨(bZ (e9 y i (gL []))).getD i undef,[],none⟩:=by intros;kernel_rfl)
  (hr:∀y,(ress y).getD i []=[]:=by exact λ_=>rfl)(hc:((use.getD i []).filter λj=>!(iC (cons.getD i []) j))=use.getD i []:=by rfl):
  ∀o,all[i]?=some o→∀a' w' y M',aj [] n base a'→(∀j∈cQ.getD i [],j≠i→∀d,ef all j=some d→a'.tmps[d]?=some ((bZ y).getD j undef))→(∀(k:Nat) e,fa[k]?=some e→(Nat.beq e.2.1 i||reach all N e.2.1 i)=true→a'.tmps[e.1]?=some e.2.2)→S0 M' (cZ N ress L y (use.getD i [])) w'→
   bg P (uv o) a' w' λv w2=>∃g:Nat→Gh,(∀d,ef all i=some d→v=(bZ (e9 y i g)).getD i undef)∧SH M' (aD (cZ N ress L y (use.getD i []))) w' ((ress (e9 y i g)).getD i []++cZ N ress L y ((use.getD i []).filter λj=>!(iC (cons.getD i []) j))) w2:=
 se (λ_ _=>[]) (λy _=>he y) hr hc
end
theorem Ek{P:Program}{n id:Nat}{all:List Oper}{a:Act}{w wE:World}{base:SF}{M:Av}{X:List Nat}{L:List aB}{N' R':eQ}{ES:List (Nat×eQ)}(N m:Nat)(bZ:Gm→List Value)(ress:Gm→List (List aB))(use cons cQ:List (List Nat))(fa:List (Nat×Nat×Value))
  (H:aj [] n base a)(hold:∀(k:Nat) e,fa[k]?=some e→a.tmps[e.1]?=some e.2.2)(px:A3 N all fa=true)(hS:SH M X wE L w)(hm:P.follows .mixedOrders=true)(hN:all.length=N)(hL:L.length=m)(jn:rU n base all=true)(lJ:yH all=true)(qv:yL N m all use cons cQ=true)(A6:gV N 0 λi=>uw all bZ cQ i ((all[i]?).bind (·.guard)))
  (A7:gV N 0 λi=>∀o,all[i]?=some o→∀a' w' y M',aj [] n base a'→(∀j∈cQ.getD i [],j≠i→∀d,ef all j=some d→a'.tmps[d]?=some ((bZ y).getD j undef))→(∀(k:Nat) e,fa[k]?=some e→(Nat.beq e.2.1 i||reach all N e.2.1 i)=true→a'.tmps[e.1]?=some e.2.2)→S0 M' (cZ N ress L y (use.getD i [])) w'→
   bg P (uv o) a' w' λv w2=>∃g:Nat→Gh,(∀d,ef all i=some d→v=(bZ (e9 y i g)).getD i undef)∧SH M' (aD (cZ N ress L y (use.getD i []))) w' ((ress (e9 y i g)).getD i []++cZ N ress L y ((use.getD i []).filter λj=>!(iC (cons.getD i []) j))) w2)
  (hK:∀a' w' y,aj [] n base a'→(∀i d,ef all i=some d→a'.tmps[d]?=some ((bZ y).getD i undef))→SH M X wE (cZ N ress L y (w9 N m cons)) w'→N' a' w')(hl:gV N 0 (OZ bZ ress cQ):=by repeat (first|exact trivial|refine And.intro (λ_=>⟨rfl,rfl⟩) ?_)):(Code.region id all.toArray true).wp P (Qs N' ES R') a w:=
 a0S N m bZ ress use cons cQ fa H hold px hS hm hN hL jn lJ qv A6 (TG hl) A7 hK
theorem rY{P:Program}{n id:Nat}{all:List Oper}{a:Act}{w wE:World}{base:SF}{M:Av}{X:List Nat}{L:List aB}{N' R':eQ}{ES:List (Nat×eQ)}{z:Code}(N m:Nat)(bZ:Gm→List Value)(ress:Gm→List (List aB))(use cons cQ:List (List Nat))(fa:List (Nat×Nat×Value))
  (H:aj [] n base a)(hold:∀(k:Nat) e,fa[k]?=some e→a.tmps[e.1]?=some e.2.2)(px:A3 N all fa=true)(hS:SH M X wE L w)(hm:P.follows .mixedOrders=true)(hN:all.length=N)(hL:L.length=m)(jn:rU n base all=true)(lJ:yH all=true)(qv:yL N m all use cons cQ=true)(A6:gV N 0 λi=>uw all bZ cQ i ((all[i]?).bind (·.guard)))
  (A7:gV N 0 λi=>∀o,all[i]?=some o→∀a' w' y M',aj [] n base a'→(∀j∈cQ.getD i [],j≠i→∀d,ef all j=some d→a'.tmps[d]?=some ((bZ y).getD j undef))→(∀(k:Nat) e,fa[k]?=some e→(Nat.beq e.2.1 i||reach all N e.2.1 i)=true→a'.tmps[e.1]?=some e.2.2)→S0 M' (cZ N ress L y (use.getD i [])) w'→
   bg P (uv o) a' w' λv w2=>∃g:Nat→Gh,(∀d,ef all i=some d→v=(bZ (e9 y i g)).getD i undef)∧SH M' (aD (cZ N ress L y (use.getD i []))) w' ((ress (e9 y i g)).getD i []++cZ N ress L y ((use.getD i []).filter λj=>!(iC (cons.getD i []) j))) w2)
  (hK:∀a' w' y,aj [] n base a'→(∀i d,ef all i=some d→a'.tmps[d]?=some ((bZ y).getD i undef))→SH M X wE (cZ N ress L y (w9 N m cons)) w'→z.wp P (Qs N' ES R') a' w')(hl:gV N 0 (OZ bZ ress cQ):=by repeat (first|exact trivial|refine And.intro (λ_=>⟨rfl,rfl⟩) ?_)):(Code.seq (.region id all.toArray true) z).wp P (Qs N' ES R') a w:=
 a7r N m bZ ress use cons cQ fa H hold px hS hm hN hL jn lJ qv A6 (TG hl) A7 hK
theorem a7z{P:Program}{n id:Nat}{all:List Oper}{a:Act}{w wE:World}{base:SF}{M:Av}{X:List Nat}{L:List aB}{N' R':eQ}{ES:List (Nat×eQ)}{z:Code}(N m:Nat)(bZ:Gm→List Value)(ress:Gm→List (List aB))(use cons cQ:List (List Nat))(fa:List (Nat×Nat×Value))
  (H:aj [] n base a)(hold:∀(k:Nat) e,fa[k]?=some e→a.tmps[e.1]?=some e.2.2)(px:A3 N all fa=true)(hS:SH M X wE L w)(hm:P.follows .mixedOrders=true)(hN:all.length=N)(hL:L.length=m)(jn:rU n base all=true)(lJ:yH all=true)(qv:yL N m all use cons cQ=true)
  (hA:gV N 0 λi=>Kw all bZ ress use cQ i ((all[i]?).bind (·.guard))∨(uw all bZ cQ i ((all[i]?).bind (·.guard))∧∀o,all[i]?=some o→∀a' w' y M',aj [] n base a'→(∀j∈cQ.getD i [],j≠i→∀d,ef all j=some d→a'.tmps[d]?=some ((bZ y).getD j undef))→(∀(k:Nat) e,fa[k]?=some e→(Nat.beq e.2.1 i||reach all N e.2.1 i)=true→a'.tmps[e.1]?=some e.2.2)→S0 M' (cZ N ress L y (use.getD i [])) w'→
   bg P (uv o) a' w' λv w2=>∃g:Nat→Gh,(∀d,ef all i=some d→v=(bZ (e9 y i g)).getD i undef)∧SH M' (aD (cZ N ress L y (use.getD i []))) w' ((ress (e9 y i g)).getD i []++cZ N ress L y ((use.getD i []).filter λj=>!(iC (cons.getD i []) j))) w2))
  (hK:∀a' w' y,aj [] n base a'→(∀i d,ef all i=some d→a'.tmps[d]?=some ((bZ y).getD i undef))→SH M X wE (cZ N ress L y (w9 N m cons)) w'→z.wp P (Qs N' ES R') a' w')(hl:gV N 0 (OZ bZ ress cQ):=by repeat (first|exact trivial|refine And.intro (λ_=>⟨rfl,rfl⟩) ?_)):(Code.seq (.region id all.toArray true) z).wp P (Qs N' ES R') a w:=
 a7t N m bZ ress use cons cQ fa H hold px hS hm hN hL jn lJ qv (TG hl) hA hK
section
variable {M:Av} {X:List Nat} {w0:World} {L:List aB}
def ki(k:Nat){α:Type}{Y:Ty α}{q:List α}{g:Gh}{ix:Int}(h:0≤ix∧ix<ln q)(hk:L[k]?=some (.im Y q g):=by rfl):Pk (SH M X w0 L):=⟨none,λ_=>eg g.a∧0≤ix∧ix<ln q,λ_ hS=>(hS.im k hk).iK h⟩
def kj(k j:Nat){α:Type}[Inhabited α]{Y:Ty α}{q:List α}{g:Gh}{ix:Int}{v:Value}(h:0≤ix∧ix<ln q)(hk:L[k]?=some (.im Y q g):=by rfl)(hv:(Y.enc (gi q ix) (g.s ix.toNat))[j]?=some v:=by rfl):Pk (SH M X w0 L):=⟨some v,c9 ⟨ab g.a,ao g.a+ix.toNat*Y.z+j,none⟩ v,λ_ hS=>(hS.im k hk).c9 h j hv⟩
def kI(k:Nat){α:Type}{E:TypeId}{Y:Ty α}{q:List α}{g:Gh}{ix:Int}(h:0≤ix∧ix<ln q)(hk:L[k]?=some (.own E Y q g):=by rfl):Pk (SH M X w0 L):=⟨none,λ_=>eg g.a∧0≤ix∧ix<ln q,λ_ hS=>(hS.bD k hk).iK h⟩
def kJ(k j:Nat){α:Type}[Inhabited α]{E:TypeId}{Y:Ty α}{q:List α}{g:Gh}{ix:Int}{v:Value}(h:0≤ix∧ix<ln q)(hk:L[k]?=some (.own E Y q g):=by rfl)(hv:(Y.enc (gi q ix) (g.s ix.toNat))[j]?=some v:=by rfl):Pk (SH M X w0 L):=⟨some v,c9 ⟨ab g.a,ao g.a+ix.toNat*Y.z+j,none⟩ v,λ_ hS=>(hS.bD k hk).c9 h j hv⟩
def jH(c:Prop)(k:Nat){α:Type}{Y:Ty α}{q:List α}{g:Gh}{ix:Int}(h:c→0≤ix∧ix<ln q)(hk:L[k]?=some (.im Y q g):=by rfl):Pk (SH M X w0 L):=⟨none,λ_=>c→eg g.a∧0≤ix∧ix<ln q,λ_ hS hc=>(hS.im k hk).iK (h hc)⟩
def km(c:Prop)(k j:Nat){α:Type}[Inhabited α]{Y:Ty α}{q:List α}{g:Gh}{ix:Int}{v:Value}(h:c→0≤ix∧ix<ln q)(hk:L[k]?=some (.im Y q g):=by rfl)(hv:(Y.enc (gi q ix) (g.s ix.toNat))[j]?=some v:=by rfl):Pk (SH M X w0 L):=⟨some v,λw=>c→c9 ⟨ab g.a,ao g.a+ix.toNat*Y.z+j,none⟩ v w,λ_ hS hc=>(hS.im k hk).c9 (h hc) j hv⟩
def mz(c:Prop)(k:Nat){α:Type}{E:TypeId}{Y:Ty α}{q:List α}{g:Gh}{ix:Int}(h:c→0≤ix∧ix<ln q)(hk:L[k]?=some (.own E Y q g):=by rfl):Pk (SH M X w0 L):=⟨none,λ_=>c→eg g.a∧0≤ix∧ix<ln q,λ_ hS hc=>(hS.bD k hk).iK (h hc)⟩
def nJ(c:Prop)(k j:Nat){α:Type}[Inhabited α]{E:TypeId}{Y:Ty α}{q:List α}{g:Gh}{ix:Int}{v:Value}(h:c→0≤ix∧ix<ln q)(hk:L[k]?=some (.own E Y q g):=by rfl)(hv:(Y.enc (gi q ix) (g.s ix.toNat))[j]?=some v:=by rfl):Pk (SH M X w0 L):=⟨some v,λw=>c→c9 ⟨ab g.a,ao g.a+ix.toNat*Y.z+j,none⟩ v w,λ_ hS hc=>(hS.bD k hk).c9 (h hc) j hv⟩
def bx(c:Prop)(k o:Nat){b:Nat}{cs:List Value}{v:Value}(hk:L[k]?=some (.my b cs):=by rfl)(hv:cs[o]?=some v:=by rfl):Pk (SH M X w0 L):=⟨some v,λw=>c→c9 ⟨b,o,none⟩ v w,λ_ h _=>(h.bk k hk).c9 hv⟩
def kgo(c:Prop)(k o:Nat){b:Nat}{cs:List Value}{v:Value}(hk:L[k]?=some (.ro b cs):=by rfl)(hv:cs[o]?=some v:=by rfl):Pk (SH M X w0 L):=⟨some v,λw=>c→c9 ⟨b,o,none⟩ v w,λ_ h _=>(h.ro k hk).c9 hv⟩
end
section
variable {n:Nat} {M:Av} {X:List Nat} {w0:World} {l:SF} {L:List aB} {P:Program} {f:FuncId} {fn:Func} {c:Code} {args:List Value}
def Pn(v:Value)(E:List aB)(M:Av)(X:List Nat)(w:World):Ending→World→Prop:=λe w'=>∃u,e=.returned u∧u=v∧SH M X w E w'
def Pm{γ:Type}(F:γ→Value)(E:γ→List aB)(M:Av)(X:List Nat)(w:World):Ending→World→Prop:=λe w'=>∃u,e=.returned u∧∃g,u=F g∧SH M X w (E g) w'
def P0{γ:Type}(P:Program)(f:FuncId)(args:Array Value)(L:List aB)(F:γ→Value)(E:γ→List aB):Prop:=∀(M:Av)(w:World),S0 M L w→eJ P f args w λv w'=>∃g,v=F g∧SH M (aD L) w (E g) w'
def TH(P:Program)(f:FuncId)(args:Array Value)(L:List aB)(v:Value)(E:List aB):Prop:=∀(M:Av)(w:World),S0 M L w→eJ P f args w λu w'=>u=v∧SH M (aD L) w E w'
theorem TI{γ:Type}{i d:Nat}{x:Operand}{ar:Array Operand}{uo:Array TypeId}{ty:TypeId}{pos:String}{after:Array Edge}{f:FuncId}{av first KC rP:List Value}{F:γ→Value}{E:γ→List aB}{L':List aB}{D:List Deferred}{all:List Oper}{N:Exit→Act→World→Prop}(kt rt ks:List Nat)(vs:List Value)(hc:P0 P f ⟨av⟩ L' F E)
  (h:∀g,T D n M X w0 ((d,[],F g)::fz ks vs) (E g++eE L rt) λa w=>wpList P all.toArray N (all.drop (i+1)) a w)
  (ho:all[i]?=some ⟨some d,.call ⟨.value x,ar,uo⟩,ty,pos,after,none⟩:=by rfl)(hx:callee l [] x=some (f,first,rP):=by rfl)(ha:pq l [] ar.toList=some KC:=by rfl)(hv:first++KC++rP=av:=by rfl)(hL:eE L kt=L':=by rfl)
  (hd:Nat.blt d n=true:=by rfl)(hk:∀v,aK (oX l d [] v) (d::ks)=some ((d,[],v)::fz ks vs):=by intro v;kernel_rfl)
  (h1:kM L kt=true:=by rfl)(h2:tp L rt kt=true:=by rfl)(h3:kM L rt=true:=by rfl):T D n M X w0 l L λa w=>wpList P all.toArray N (all.drop i) a w:=by
 subst hv hL;exact fb kt rt ks vs (λ_ _ H hS=>df H hx ha (hc _ _ hS)) h ho rfl rfl hd hk h1 h2 h3
theorem dy{v:Value}(hc:∀w,(callFunc f ⟨args⟩).run P w=.ok (.enter f ⟨args⟩) w)(hf:P.funcs[f]?=some fn)(hn:fn.ntmps=n)
  (h:∀(M:Av)(X:List Nat)(w:World),T [] n M X w (BB args 0) [] λa w'=>c.wp P (Qs (Rp P fn (Pn v [] M X w)) [] (Rp P fn (Pn v [] M X w))) a w')(hb:fn.body=some c:=by rfl)(hl:Nat.ble args.length n=true:=by rfl):Bv P f ⟨args⟩ v:=
 a6S hc λw hS=>dQ hf hb hn hl λ_ H=>h F0 (aD []) w _ _ H hS
theorem cz{v:Value}{w:World}(hL:S0 F0 L w∧aD L=[])(hc:∀w,(callFunc f ⟨args⟩).run P w=.ok (.enter f ⟨args⟩) w)(hf:P.funcs[f]?=some fn)(hn:fn.ntmps=n)
  (h:∀(M:Av)(X:List Nat)(w:World),T [] n M X w (BB args 0) L λa w'=>c.wp P (Qs (Rp P fn (Pn v [] M X w)) [] (Rp P fn (Pn v [] M X w))) a w')(hb:fn.body=some c:=by rfl)(hl:Nat.ble args.length n=true:=by rfl):lG P f ⟨args⟩ v w:=
 gA hL hc λw hS=>dQ hf hb hn hl λ_ H=>h F0 (aD L) w _ _ H hS
theorem gY{γ:Type}{F:γ→Value}{E:γ→List aB}(hc:∀w,(callFunc f ⟨args⟩).run P w=.ok (.enter f ⟨args⟩) w)(hf:P.funcs[f]?=some fn)(hn:fn.ntmps=n)
  (h:∀(M:Av)(X:List Nat)(w:World),T [] n M X w (BB args 0) L λa w'=>c.wp P (Qs (Rp P fn (Pm F E M X w)) [] (Rp P fn (Pm F E M X w))) a w')(hb:fn.body=some c:=by rfl)(hl:Nat.ble args.length n=true:=by rfl):P0 P f ⟨args⟩ L F E:=
 λM w hS=>⟨hc,dQ hf hb hn hl λ_ H=>h M (aD L) w _ _ H hS⟩
theorem a0V{v:Value}{E:List aB}(hc:∀w,(callFunc f ⟨args⟩).run P w=.ok (.enter f ⟨args⟩) w)(hf:P.funcs[f]?=some fn)(hn:fn.ntmps=n)
  (h:∀(M:Av)(X:List Nat)(w:World),T [] n M X w (BB args 0) L λa w'=>c.wp P (Qs (Rp P fn (Pn v E M X w)) [] (Rp P fn (Pn v E M X w))) a w')(hb:fn.body=some c:=by rfl)(hl:Nat.ble args.length n=true:=by rfl):TH P f ⟨args⟩ L v E:=
 λM w hS=>⟨hc,dQ hf hb hn hl λ_ H=>h M (aD L) w _ _ H hS⟩
def Rs(P:Program)(fn:Func)(l:SF)(L:List aB)(v:Value):Prop:=∀n M X w0 a w (R:Ending→World→Prop),aj [] n l a→SH M X w0 L w→R (.returned v) w→Rp P fn R a w
theorem bf{E:List aB}{v:Value}(ks:List Nat)(hr:Rs P fn l L v)(hE:eE L ks=E:=by rfl)(hk:kM L ks=true:=by rfl):T [] n M X w0 l L (Rp P fn (Pn v E M X w0)):=
 λ_ _ H hS=>hr _ _ _ _ _ _ _ H hS ⟨_,rfl,rfl,hE▸hS.aV ks hk⟩
theorem dm{γ:Type}{F:γ→Value}{E:γ→List aB}(g:γ)(ks:List Nat)(hr:Rs P fn l L (F g))(hE:eE L ks=E g:=by rfl)(hk:kM L ks=true:=by rfl):T [] n M X w0 l L (Rp P fn (Pm F E M X w0)):=
 λ_ _ H hS=>hr _ _ _ _ _ _ _ H hS ⟨_,rfl,g,rfl,hE▸hS.aV ks hk⟩
theorem rs0(hr:fn.results=#[]:=by rfl):Rs P fn l L (.tuple ⟨[]⟩):=λ_ _ _ _ _ _ _ H _ hR=>nH H hr hR
theorem KD{t:Nat}{v:Value}(hr:fn.results=#[.tmp t]:=by rfl)(h:gw l t=some ([],v):=by rfl):Rs P fn l L v:=λ_ _ _ _ _ _ _ H _ hR=>ur H hr h hR
theorem rs2{t s:Nat}{v u:Value}(hr:fn.results=#[.tmp t,.tmp s]:=by rfl)(h:gw l t=some ([],v):=by rfl)(h2:gw l s=some ([],u):=by rfl):Rs P fn l L (.tuple ⟨[v,u]⟩):=λ_ _ _ _ _ _ _ H _ hR=>qt H hr h h2 hR
theorem rsa(k:Nat){t b:Nat}{Y:TypeId}{cs:List Value}{d:TypeDesc}(hu:P.underlying Y=some d)(hr:fn.results=#[.cell t Y]:=by rfl)(h:gw l t=some ([],.pointer (some ⟨b,0,none⟩)):=by rfl)(hk:L[k]?=some (.my b cs):=by rfl)
  (hd:(match d with| .struct _| .array _ _=>true|_=>false)=true:=by rfl)(hz:(P.info? Y).map (·.size)=some cs.length:=by kernel_rfl):Rs P fn l L (.agg ⟨cs⟩):=λ_ _ _ _ _ _ _ H hS hR=>ur H hr (r7 h (hS.bk k hk) hu hd hz) hR
theorem a7A(k:Nat){t b s:Nat}{u:Value}{Y:TypeId}{cs:List Value}{d:TypeDesc}(hu:P.underlying Y=some d)(hr:fn.results=#[.cell t Y,.tmp s]:=by rfl)(h:gw l t=some ([],.pointer (some ⟨b,0,none⟩)):=by rfl)(h2:gw l s=some ([],u):=by rfl)(hk:L[k]?=some (.my b cs):=by rfl)
  (hd:(match d with| .struct _| .array _ _=>true|_=>false)=true:=by rfl)(hz:(P.info? Y).map (·.size)=some cs.length:=by kernel_rfl):Rs P fn l L (.tuple ⟨[.agg ⟨cs⟩,u]⟩):=λ_ _ _ _ _ _ _ H hS hR=>qt H hr (r7 h (hS.bk k hk) hu hd hz) h2 hR
end
section
variable {P:Program} {a:Act} {w:World} {n:Nat} {l:SF} {M:Av} {D:List Deferred}
theorem a7B{α:Type}{T:Ty α}{d:Nat}{t E:TypeId}{len:Nat}{zv:Value}{parts:Array (Nat×Operand)}{ty:TypeId}{pos:String}{after:Array Edge}{L:List aB}(cs:List Value)(xs:List α)(gs:List (Nat→Gh)){vs:List Value}(H:aj D n l a)(hS:S0 M L w)(he:pq l [] (parts.toList.map (·.2))=some vs)(jo:ba T (ep M L) w xs gs)
  (hu:P.underlying t=some (.slice E):=by kernel_rfl)(hz:(P.info? E).map (·.size)=some T.z:=by kernel_rfl)(qZ:(P.info? E).map (·.zero)=some (some zv):=by kernel_rfl)(hlen:Nat.ble (len*T.z) 16777216=true:=by kernel_rfl)(p7:Nat.blt 0 (len*T.z)=true:=by kernel_rfl)
  (hf:Instr.fill (λi=>some (i*T.z,T.z)) ((Array.range (len*T.z)).map (zv.cells[· %zv.cells.size]!)) ((parts.toList.map (·.1)).zip vs)=some ⟨cs⟩:=by kernel_rfl)(Kk:((dt xs (sL gs) 0).map (gn T)).flatten=cs:=by kernel_rfl)(pT:xs.length=len:=by kernel_rfl):
  bg P ⟨some d,.buildSlice t len parts,ty,pos,after,none⟩ a w λv w'=>∃g:Gh,v=.slice g.a len g.c∧SH M (aD L) w [.own E T xs g] w':=OK cs xs gs vs H hS he hu hz qZ hlen p7 hf Kk pT jo
end
def mb(k:Nat):List Nat→Bool
 |[]=>false
 |x::r=>cond (Nat.beq x k) true (mb k r)
def dl(ks:List Nat):SF→SF
 |[]=>[]
 |e::r=>cond (mb e.1 ks) (dl ks r) (e::dl ks r)
def ky:SF→List Nat
 |[]=>[]
 |e::r=>e.1::ky r
def ap:SF→SF→SF
 |[],r=>r
 |e::q,r=>e::ap q r
def nf(l:SF)(dr nk:List Nat)(nv:List Value):SF:=ap (fz nk nv) (dl nk (dl dr l))
def ak:List Nat→List Nat→List Nat
 |[],r=>r
 |e::q,r=>e::ak q r
def kl(l:SF)(dr nk:List Nat):List Nat:=ak nk (ky (dl nk (dl dr l)))
section
variable {D:List Deferred} {n:Nat} {M:Av} {X:List Nat} {w0:World} {l:SF} {L:List aB} {N R:eQ} {ES:List (Nat×eQ)} {P:Program} {Q:Exit→Act→World→Prop} {all:List Oper} {id:Nat}
theorem El{l':SF}{y:Code}(ks:List Nat)(q:List (Pk (SH M X w0 L)))(h:T D n M X w0 l' L λa w=>y.wp P (Qs N ES R) a w)
  (he:jG P n all (gK q) l ks=some (l',gM q)):T D n M X w0 l L λa w=>(Code.seq (.region id all.toArray false) y).wp P (Qs N ES R) a w:=
 λ_ _ H hS=>GS (gK q) ks _ (gM q) H he (yN hS q) λ_ _ H' hb=>h _ _ H' (hS.below hb)
theorem A8{l':SF}(ks:List Nat)(q:List (Pk (SH M X w0 L)))(h:T D n M X w0 l' L N)
  (he:jG P n all (gK q) l ks=some (l',gM q)):T D n M X w0 l L λa w=>(Code.region id all.toArray false).wp P (Qs N ES R) a w:=
 λ_ _ H hS=>SS (gK q) ks _ (gM q) H he (yN hS q) λ_ _ H' hb=>h _ _ H' (hS.below hb)
theorem s_b{l':SF}{i:Nat}(j:Nat)(ks:List Nat)(q:List (Pk (SH M X w0 L)))(h:T D n M X w0 l' L λa w=>wpList P all.toArray Q (all.drop j) a w)
  (he:GV P n all i j (gK q) l ks=some (l',gM q))(dP:Nat.ble i j=true:=by rfl):T D n M X w0 l L λa w=>wpList P all.toArray Q (all.drop i) a w:=
 λ_ _ H hS=>SV i j (gK q) ks _ (gM q) H dP he (yN hS q) λ_ _ H' hb=>h _ _ H' (hS.below hb)
theorem uR{y:Code}(dr nk:List Nat)(nv:List Value)(q:List (Pk (SH M X w0 L)))(h:T D n M X w0 (nf l dr nk nv) L λa w=>y.wp P (Qs N ES R) a w)
  (he:jG P n all (gK q) l (kl l dr nk)=some (nf l dr nk nv,gM q):=by kernel_rfl):T D n M X w0 l L λa w=>(Code.seq (.region id all.toArray false) y).wp P (Qs N ES R) a w:=El _ q h he
theorem uW(dr nk:List Nat)(nv:List Value)(q:List (Pk (SH M X w0 L)))(h:T D n M X w0 (nf l dr nk nv) L N)
  (he:jG P n all (gK q) l (kl l dr nk)=some (nf l dr nk nv,gM q):=by kernel_rfl):T D n M X w0 l L λa w=>(Code.region id all.toArray false).wp P (Qs N ES R) a w:=A8 _ q h he
theorem uB{i:Nat}(j:Nat)(dr nk:List Nat)(nv:List Value)(q:List (Pk (SH M X w0 L)))(h:T D n M X w0 (nf l dr nk nv) L λa w=>wpList P all.toArray Q (all.drop j) a w)
  (he:GV P n all i j (gK q) l (kl l dr nk)=some (nf l dr nk nv,gM q):=by kernel_rfl)(dP:Nat.ble i j=true:=by rfl):T D n M X w0 l L λa w=>wpList P all.toArray Q (all.drop i) a w:=s_b j _ q h he dP
theorem uA{y:Code}(k:Nat)(v:Value)(q:List (Pk (SH M X w0 L)))(h:T D n M X w0 (nf l [] [k] [v]) L λa w=>y.wp P (Qs N ES R) a w)
  (he:jG P n all (gK q) l (kl l [] [k])=some (nf l [] [k] [v],gM q):=by kernel_rfl):T D n M X w0 l L λa w=>(Code.seq (.region id all.toArray false) y).wp P (Qs N ES R) a w:=El _ q h he
theorem uV(k:Nat)(v:Value)(q:List (Pk (SH M X w0 L)))(h:T D n M X w0 (nf l [] [k] [v]) L N)
  (he:jG P n all (gK q) l (kl l [] [k])=some (nf l [] [k] [v],gM q):=by kernel_rfl):T D n M X w0 l L λa w=>(Code.region id all.toArray false).wp P (Qs N ES R) a w:=A8 _ q h he
theorem uJ{α:Type}{k:Nat}{x y:Code}{t:Bool}{p s r:α}(dr:List Nat)(q:List (Pk (SH M X w0 L)))(hm:cond t p s=r)(h1:p=r→T D n M X w0 (dl dr l) L λa w=>x.wp P (Qs N ES R) a w)(h2:s=r→T D n M X w0 (dl dr l) L λa w=>y.wp P (Qs N ES R) a w)
  (he:jG P n all (gK q) l (k::ky (dl dr l))=some ((k,[],.bool t)::dl dr l,gM q):=by kernel_rfl):T D n M X w0 l L λa w=>(Code.seq (.region id all.toArray false) (.cond (.tmp k) x y)).wp P (Qs N ES R) a w:=
 El _ q (Eh (l:=(k,[],.bool t)::dl dr l) hm (λh a w H hS=>h1 h a w (H.mono λ_ he=>List.mem_cons_of_mem _ he) hS) (λh a w H hS=>h2 h a w (H.mono λ_ he=>List.mem_cons_of_mem _ he) hS) (by simp[ev,gw,uk])) he
theorem uz{α:Type}{k:Nat}{x y:Code}{t:Bool}{s:Option α}{r:α}(dr:List Nat)(q:List (Pk (SH M X w0 L)))(hm:cond t none s=some r)(h2:s=some r→T D n M X w0 (dl dr l) L λa w=>y.wp P (Qs N ES R) a w)
  (he:jG P n all (gK q) l (k::ky (dl dr l))=some ((k,[],.bool t)::dl dr l,gM q):=by kernel_rfl):T D n M X w0 l L λa w=>(Code.seq (.region id all.toArray false) (.cond (.tmp k) x y)).wp P (Qs N ES R) a w:=uJ dr q hm (λh=>cD h) h2 he
theorem uC{α:Type}{c:Operand}{x y:Code}{t:Bool}{p s r:α}(hm:cond t p s=r)(h1:p=r→T D n M X w0 l L λa w=>x.wp P (Qs N ES R) a w)(h2:s=r→T D n M X w0 l L λa w=>y.wp P (Qs N ES R) a w)(hc:ev l [] c=some (.bool t):=by kernel_rfl):
  T D n M X w0 l L λa w=>(Code.cond c x y).wp P (Qs N ES R) a w:=Eh hm h1 h2 hc
theorem uO{y:Code}(q:List (Pk (SH M X w0 L)))(h:T D n M X w0 l L λa w=>y.wp P (Qs N ES R) a w)
  (he:jG P n all (gK q) l (ky l)=some (l,gM q):=by kernel_rfl):T D n M X w0 l L λa w=>(Code.seq (.region id all.toArray false) y).wp P (Qs N ES R) a w:=El _ q h he
theorem uP{i:Nat}(j:Nat)(q:List (Pk (SH M X w0 L)))(h:T D n M X w0 l L λa w=>wpList P all.toArray Q (all.drop j) a w)
  (he:GV P n all i j (gK q) l (ky l)=some (l,gM q):=by kernel_rfl)(dP:Nat.ble i j=true:=by rfl):T D n M X w0 l L λa w=>wpList P all.toArray Q (all.drop i) a w:=s_b j _ q h he dP
theorem uI{α:Type}{k:Nat}{x y:Code}{t:Bool}{p s r:α}(q:List (Pk (SH M X w0 L)))(hm:cond t p s=r)(h1:p=r→T D n M X w0 l L λa w=>x.wp P (Qs N ES R) a w)(h2:s=r→T D n M X w0 l L λa w=>y.wp P (Qs N ES R) a w)
  (he:jG P n all (gK q) l (k::ky l)=some ((k,[],.bool t)::l,gM q):=by kernel_rfl):T D n M X w0 l L λa w=>(Code.seq (.region id all.toArray false) (.cond (.tmp k) x y)).wp P (Qs N ES R) a w:=
 El _ q (Eh (l:=(k,[],.bool t)::l) hm (λh a w H hS=>h1 h a w (H.mono λ_ he=>List.mem_cons_of_mem _ he) hS) (λh a w H hS=>h2 h a w (H.mono λ_ he=>List.mem_cons_of_mem _ he) hS) (by simp[ev,gw,uk])) he
theorem TJ{α:Type}{k:Nat}{x y:Code}{t:Bool}{p:Option α}{r:α}(q:List (Pk (SH M X w0 L)))(hm:cond t p none=some r)(h1:p=some r→T D n M X w0 l L λa w=>x.wp P (Qs N ES R) a w)
  (he:jG P n all (gK q) l (k::ky l)=some ((k,[],.bool t)::l,gM q):=by kernel_rfl):T D n M X w0 l L λa w=>(Code.seq (.region id all.toArray false) (.cond (.tmp k) x y)).wp P (Qs N ES R) a w:=uI q hm h1 (λh=>cD h) he
theorem gZ{α:Type}{k:Nat}{x y:Code}{t:Bool}{s:Option α}{r:α}(q:List (Pk (SH M X w0 L)))(hm:cond t none s=some r)(h2:s=some r→T D n M X w0 l L λa w=>y.wp P (Qs N ES R) a w)
  (he:jG P n all (gK q) l (k::ky l)=some ((k,[],.bool t)::l,gM q):=by kernel_rfl):T D n M X w0 l L λa w=>(Code.seq (.region id all.toArray false) (.cond (.tmp k) x y)).wp P (Qs N ES R) a w:=uI q hm (λh=>cD h) h2 he
theorem uN{i:Nat}{o:Oper}{E:List aB}(kt rt:List Nat)
  (hs:∀a w,aj D n l a→S0 (ep M (eE L rt)) (eE L kt) w→bg P o a w λ_ w'=>SH (ep M (eE L rt)) (aD (eE L kt)) w E w')
  (h:T D n M X w0 l (E++eE L rt) λa w=>wpList P all.toArray Q (all.drop (i+1)) a w)
  (ho:all[i]?=some o:=by rfl)(hg:o.guard=none:=by rfl)(rS:o.dst=none:=by rfl)(hk:aK l (ky l)=some l:=by kernel_rfl)
  (h1:kM L kt=true:=by rfl)(h2:tp L rt kt=true:=by rfl)(h3:kM L rt=true:=by rfl):T D n M X w0 l L λa w=>wpList P all.toArray Q (all.drop i) a w:=
 λ_ w H hS=>vZ (ky l) _ H ho hg rS (hs _ w H (hS.hand kt rt h1 h2)) hk λ_ _ H' ⟨_,hq⟩=>h _ _ H' (hS.join kt rt h3 h2 hq)
theorem uM{γ:Type}{i d:Nat}{o:Oper}{F:γ→Value}{E:γ→List aB}(kt rt dr:List Nat)
  (hs:∀a w,aj D n l a→S0 (ep M (eE L rt)) (eE L kt) w→bg P o a w λv w'=>∃g,v=F g∧SH (ep M (eE L rt)) (aD (eE L kt)) w (E g) w')
  (h:∀g,T D n M X w0 ((d,[],F g)::dl (d::dr) l) (E g++eE L rt) λa w=>wpList P all.toArray Q (all.drop (i+1)) a w)
  (ho:all[i]?=some o:=by rfl)(hg:o.guard=none:=by rfl)(rS:o.dst=some d:=by rfl)(hd:Nat.blt d n=true:=by rfl)(hk:∀v,aK (oX l d [] v) (d::ky (dl (d::dr) l))=some ((d,[],v)::dl (d::dr) l):=by intro v;kernel_rfl)
  (h1:kM L kt=true:=by rfl)(h2:tp L rt kt=true:=by rfl)(h3:kM L rt=true:=by rfl):T D n M X w0 l L λa w=>wpList P all.toArray Q (all.drop i) a w:=
 λ_ w H hS=>eZ (d::ky (dl (d::dr) l)) _ H ho hg rS hd (hs _ w H (hS.hand kt rt h1 h2)) hk λ_ _ _ H' ⟨g,e,hq⟩=>h g _ _ (e▸H') (hS.join kt rt h3 h2 hq)
theorem uL{i:Nat}{o:Oper}{E:List aB}(kt rt dr:List Nat)
  (hs:∀a w,aj D n l a→S0 (ep M (eE L rt)) (eE L kt) w→bg P o a w λ_ w'=>SH (ep M (eE L rt)) (aD (eE L kt)) w E w')
  (h:T D n M X w0 (dl dr l) (E++eE L rt) λa w=>wpList P all.toArray Q (all.drop (i+1)) a w)
  (ho:all[i]?=some o:=by rfl)(hg:o.guard=none:=by rfl)(rS:o.dst=none:=by rfl)(hk:aK l (ky (dl dr l))=some (dl dr l):=by kernel_rfl)
  (h1:kM L kt=true:=by rfl)(h2:tp L rt kt=true:=by rfl)(h3:kM L rt=true:=by rfl):T D n M X w0 l L λa w=>wpList P all.toArray Q (all.drop i) a w:=
 λ_ w H hS=>vZ (ky (dl dr l)) _ H ho hg rS (hs _ w H (hS.hand kt rt h1 h2)) hk λ_ _ H' ⟨_,hq⟩=>h _ _ H' (hS.join kt rt h3 h2 hq)
theorem uQ{γ:Type}{i d:Nat}{x:Operand}{ar:Array Operand}{uo:Array TypeId}{ty:TypeId}{pos:String}{after:Array Edge}{f:FuncId}{av first KC rP:List Value}{F:γ→Value}{E:γ→List aB}{L':List aB}(kt rt dr:List Nat)(hc:P0 P f ⟨av⟩ L' F E)
  (h:∀g,T D n M X w0 ((d,[],F g)::dl (d::dr) l) (E g++eE L rt) λa w=>wpList P all.toArray Q (all.drop (i+1)) a w)
  (ho:all[i]?=some ⟨some d,.call ⟨.value x,ar,uo⟩,ty,pos,after,none⟩:=by rfl)(hx:callee l [] x=some (f,first,rP):=by rfl)(ha:pq l [] ar.toList=some KC:=by rfl)(hv:first++KC++rP=av:=by rfl)(hL:eE L kt=L':=by rfl)
  (hd:Nat.blt d n=true:=by rfl)(hk:∀v,aK (oX l d [] v) (d::ky (dl (d::dr) l))=some ((d,[],v)::dl (d::dr) l):=by intro v;kernel_rfl)
  (h1:kM L kt=true:=by rfl)(h2:tp L rt kt=true:=by rfl)(h3:kM L rt=true:=by rfl):T D n M X w0 l L λa w=>wpList P all.toArray Q (all.drop i) a w:=by
 subst hv hL;exact uM kt rt dr (λ_ _ H hS=>df H hx ha (hc _ _ hS)) h ho rfl rfl hd hk h1 h2 h3
theorem te{l':SF}{L':List aB}(hl:aK l (ky l')=some l':=by kernel_rfl)(hL:L=L':=by rfl):T D n M X w0 l L (Cu D n M X w0 l' L'):=t_e _ hl hL
abbrev Cs{ρ γ:Type}(z:Sum ρ γ)(D:List Deferred)(n:Nat)(M:Av)(X:List Nat)(w0:World)(l:γ→SF)(L:γ→List aB):eQ:=λa w=>∃s,z=Sum.inr s∧aj D n (l s) a∧SH M X w0 (L s) w
theorem uS{ρ γ:Type}{z:Sum ρ γ}{x y:Code}(dr nk:List Nat)(nv:γ→List Value)(L':γ→List aB)(h:T D n M X w0 l L λa w=>x.wp P (Qs (Cs z D n M X w0 (λs=>nf l dr nk (nv s)) L') ES R) a w)(h2:∀s,z=Sum.inr s→T D n M X w0 (nf l dr nk (nv s)) (L' s) λa w=>y.wp P (Qs N ES R) a w):
  T D n M X w0 l L λa w=>(Code.seq x y).wp P (Qs N ES R) a w:=λ_ _ H hS=>eR _ (h _ _ H hS) λa w ⟨s,hz,h⟩=>h2 s hz a w h.1 h.2
theorem ts{ρ γ:Type}{s:γ}{l':γ→SF}{L':γ→List aB}(hl:aK l (ky (l' s))=some (l' s):=by kernel_rfl)(hL:L=L' s:=by rfl):T D n M X w0 l L (Cs (Sum.inr s:Sum ρ γ) D n M X w0 l' L'):=λ_ _ H hS=>⟨s,rfl,aj.aK H hl,by rw[←hL];exact hS⟩
theorem tsc{ρ γ:Type}{s:γ}{l':γ→SF}{L':γ→List aB}{a:Act}{w:World}(H:aj D n l a)(hS:SH M X w0 L w)(hl:aK l (ky (l' s))=some (l' s):=by kernel_rfl)(hL:L=L' s:=by rfl):Cs (Sum.inr s:Sum ρ γ) D n M X w0 l' L' a w:=ts hl hL a w H hS
theorem uK{x y:Code}(dr nk:List Nat)(nv:List Value)(L':List aB)(h:T D n M X w0 l L λa w=>x.wp P (Qs (Cu D n M X w0 (nf l dr nk nv) L') ES R) a w)(h2:T D n M X w0 (nf l dr nk nv) L' λa w=>y.wp P (Qs N ES R) a w):
  T D n M X w0 l L λa w=>(Code.seq x y).wp P (Qs N ES R) a w:=λ_ _ H hS=>eR _ (h _ _ H hS) λa w h=>h2 a w h.1 h.2
theorem h9{γ:Type}{x y:Code}(dr nk:List Nat)(nv:γ→List Value)(L':γ→List aB)(h:T D n M X w0 l L λa w=>x.wp P (Qs (Cg D n M X w0 (λg=>nf l dr nk (nv g)) L') ES R) a w)(h2:∀g,T D n M X w0 (nf l dr nk (nv g)) (L' g) λa w=>y.wp P (Qs N ES R) a w):
  T D n M X w0 l L λa w=>(Code.seq x y).wp P (Qs N ES R) a w:=λ_ _ H hS=>eR _ (h _ _ H hS) λa w ⟨g,h⟩=>h2 g a w h.1 h.2
theorem tg{γ:Type}{l':γ→SF}{L':γ→List aB}(g:γ)(hl:aK l (ky (l' g))=some (l' g):=by kernel_rfl)(hL:L=L' g:=by rfl):T D n M X w0 l L (Cg D n M X w0 l' L'):=a7y g _ hl hL
end
section
variable {D:List Deferred} {n:Nat} {M:Av} {X:List Nat} {w0:World} {l:SF} {L:List aB} {N R:eQ} {ES:List (Nat×eQ)} {P:Program} {c:Code} {ρ α β δ ε γ:Type} {all:List Oper} {id:Nat}
abbrev TK(F:Nat→α→Option ρ)(r:ρ)(k:Nat)(D:List Deferred)(n:Nat)(M:Av)(X:List Nat)(w0:World)(l:α→SF)(L:α→List aB):eQ:=λa w=>∃m,m<k∧∃x,F m x=some r∧aj D n (l x) a∧SH M X w0 (L x) w
theorem eX{F:Nat→α→Option ρ}{r:ρ}{k:Nat}{x:α}(dr nk:List Nat)(nv:α→List Value)(L':α→List aB)(hm:F k x=some r)(h:∀k x,F (k+1) x=some r→T D n M X w0 (nf l dr nk (nv x)) (L' x) λa w=>c.wp P (Qs (TK F r (k+1) D n M X w0 (λx=>nf l dr nk (nv x)) L') ES R) a w)
  (hz:∀x,F 0 x=none:=by intros;rfl)(hl:aK l (kl l dr nk)=some (nf l dr nk (nv x)):=by kernel_rfl)(hL:L=L' x:=by rfl):T D n M X w0 l L λa w=>(Code.loop c).wp P (Qs N ES R) a w:=
 λa w H hS=>gb (λk a w=>∃x,F k x=some r∧aj D n (nf l dr nk (nv x)) a∧SH M X w0 (L' x) w) ⟨k,x,hm,aj.aK H hl,by rw[←hL];exact hS⟩ λm a w=>by
  rintro⟨x,hm,H,hS⟩;cases m with
  |zero=>rw[hz]at hm;cases hm
  |succ k=>exact h k x hm a w H hS
theorem ug1{F:Nat→α→Option ρ}{r:ρ}{k:Nat}{x:α}{lf:α→SF}{Lf:α→List aB}(hm:F k x=some r)(hl:aK l (ky (lf x))=some (lf x):=by kernel_rfl)(hL:L=Lf x:=by rfl):T D n M X w0 l L (TK F r (k+1) D n M X w0 lf Lf):=
 λ_ _ H hS=>⟨k,Nat.lt_succ_self _,x,hm,aj.aK H hl,by rw[←hL];exact hS⟩
theorem fQ{F:Nat→α→Option ρ}{r:ρ}{k:Nat}{x:α}{lf:α→SF}{Lf:α→List aB}(q:List (Pk (SH M X w0 L)))(hm:F k x=some r)(he:jG P n all (gK q) l (ky (lf x))=some (lf x,gM q):=by kernel_rfl)(hL:L=Lf x:=by rfl):T D n M X w0 l L λa w=>(Code.region id all.toArray false).wp P (Qs (TK F r (k+1) D n M X w0 lf Lf) ES R) a w:=
 A8 _ q (λ_ _ H hS=>⟨k,Nat.lt_succ_self _,x,hm,H,by rw[←hL];exact hS⟩) he
abbrev TL(F:Nat→α→β→Option ρ)(r:ρ)(k:Nat)(D:List Deferred)(n:Nat)(M:Av)(X:List Nat)(w0:World)(l:α→β→SF)(L:α→β→List aB):eQ:=λa w=>∃m,m<k∧∃x,∃y,F m x y=some r∧aj D n (l x y) a∧SH M X w0 (L x y) w
theorem jd{F:Nat→α→β→Option ρ}{r:ρ}{k:Nat}{x:α}{y:β}(dr nk:List Nat)(nv:α→β→List Value)(L':α→β→List aB)(hm:F k x y=some r)(h:∀k x y,F (k+1) x y=some r→T D n M X w0 (nf l dr nk (nv x y)) (L' x y) λa w=>c.wp P (Qs (TL F r (k+1) D n M X w0 (λx y=>nf l dr nk (nv x y)) L') ES R) a w)
  (hz:∀x y,F 0 x y=none:=by intros;rfl)(hl:aK l (kl l dr nk)=some (nf l dr nk (nv x y)):=by kernel_rfl)(hL:L=L' x y:=by rfl):T D n M X w0 l L λa w=>(Code.loop c).wp P (Qs N ES R) a w:=
 λa w H hS=>gb (λk a w=>∃x,∃y,F k x y=some r∧aj D n (nf l dr nk (nv x y)) a∧SH M X w0 (L' x y) w) ⟨k,x,y,hm,aj.aK H hl,by rw[←hL];exact hS⟩ λm a w=>by
  rintro⟨x,y,hm,H,hS⟩;cases m with
  |zero=>rw[hz]at hm;cases hm
  |succ k=>exact h k x y hm a w H hS
theorem ug2{F:Nat→α→β→Option ρ}{r:ρ}{k:Nat}{x:α}{y:β}{lf:α→β→SF}{Lf:α→β→List aB}(hm:F k x y=some r)(hl:aK l (ky (lf x y))=some (lf x y):=by kernel_rfl)(hL:L=Lf x y:=by rfl):T D n M X w0 l L (TL F r (k+1) D n M X w0 lf Lf):=
 λ_ _ H hS=>⟨k,Nat.lt_succ_self _,x,y,hm,aj.aK H hl,by rw[←hL];exact hS⟩
theorem jI{F:Nat→α→β→Option ρ}{r:ρ}{k:Nat}{x:α}{y:β}{lf:α→β→SF}{Lf:α→β→List aB}(q:List (Pk (SH M X w0 L)))(hm:F k x y=some r)(he:jG P n all (gK q) l (ky (lf x y))=some (lf x y,gM q):=by kernel_rfl)(hL:L=Lf x y:=by rfl):T D n M X w0 l L λa w=>(Code.region id all.toArray false).wp P (Qs (TL F r (k+1) D n M X w0 lf Lf) ES R) a w:=
 A8 _ q (λ_ _ H hS=>⟨k,Nat.lt_succ_self _,x,y,hm,H,by rw[←hL];exact hS⟩) he
abbrev TM(F:Nat→α→β→Option ρ)(r:ρ)(k:Nat)(D:List Deferred)(n:Nat)(M:Av)(X:List Nat)(w0:World)(l:α→β→γ→SF)(L:α→β→γ→List aB):eQ:=λa w=>∃m,m<k∧∃x,∃y,∃g,F m x y=some r∧aj D n (l x y g) a∧SH M X w0 (L x y g) w
theorem n8{F:Nat→α→β→Option ρ}{r:ρ}{k:Nat}{x:α}{y:β}(dr nk:List Nat)(nv:α→β→γ→List Value)(L':α→β→γ→List aB)(g:γ)(hm:F k x y=some r)(h:∀k x y g,F (k+1) x y=some r→T D n M X w0 (nf l dr nk (nv x y g)) (L' x y g) λa w=>c.wp P (Qs (TM F r (k+1) D n M X w0 (λx y g=>nf l dr nk (nv x y g)) L') ES R) a w)
  (hz:∀x y,F 0 x y=none:=by intros;rfl)(hl:aK l (kl l dr nk)=some (nf l dr nk (nv x y g)):=by kernel_rfl)(hL:L=L' x y g:=by rfl):T D n M X w0 l L λa w=>(Code.loop c).wp P (Qs N ES R) a w:=
 λa w H hS=>gb (λk a w=>∃x,∃y,∃g,F k x y=some r∧aj D n (nf l dr nk (nv x y g)) a∧SH M X w0 (L' x y g) w) ⟨k,x,y,g,hm,aj.aK H hl,by rw[←hL];exact hS⟩ λm a w=>by
  rintro⟨x,y,g,hm,H,hS⟩;cases m with
  |zero=>rw[hz]at hm;cases hm
  |succ k=>exact h k x y g hm a w H hS
theorem wc{F:Nat→α→β→Option ρ}{r:ρ}{k:Nat}{x:α}{y:β}{lf:α→β→γ→SF}{Lf:α→β→γ→List aB}(g:γ)(hm:F k x y=some r)(hl:aK l (ky (lf x y g))=some (lf x y g):=by kernel_rfl)(hL:L=Lf x y g:=by rfl):T D n M X w0 l L (TM F r (k+1) D n M X w0 lf Lf):=
 λ_ _ H hS=>⟨k,Nat.lt_succ_self _,x,y,g,hm,aj.aK H hl,by rw[←hL];exact hS⟩
theorem xw{F:Nat→α→β→Option ρ}{r:ρ}{k:Nat}{x:α}{y:β}{lf:α→β→γ→SF}{Lf:α→β→γ→List aB}(q:List (Pk (SH M X w0 L)))(g:γ)(hm:F k x y=some r)(he:jG P n all (gK q) l (ky (lf x y g))=some (lf x y g,gM q):=by kernel_rfl)(hL:L=Lf x y g:=by rfl):T D n M X w0 l L λa w=>(Code.region id all.toArray false).wp P (Qs (TM F r (k+1) D n M X w0 lf Lf) ES R) a w:=
 A8 _ q (λ_ _ H hS=>⟨k,Nat.lt_succ_self _,x,y,g,hm,H,by rw[←hL];exact hS⟩) he
abbrev TN(F:Nat→α→β→δ→Option ρ)(r:ρ)(k:Nat)(D:List Deferred)(n:Nat)(M:Av)(X:List Nat)(w0:World)(l:α→β→δ→SF)(L:α→β→δ→List aB):eQ:=λa w=>∃m,m<k∧∃x,∃y,∃u,F m x y u=some r∧aj D n (l x y u) a∧SH M X w0 (L x y u) w
theorem TO{F:Nat→α→β→δ→Option ρ}{r:ρ}{k:Nat}{x:α}{y:β}{u:δ}(dr nk:List Nat)(nv:α→β→δ→List Value)(L':α→β→δ→List aB)(hm:F k x y u=some r)(h:∀k x y u,F (k+1) x y u=some r→T D n M X w0 (nf l dr nk (nv x y u)) (L' x y u) λa w=>c.wp P (Qs (TN F r (k+1) D n M X w0 (λx y u=>nf l dr nk (nv x y u)) L') ES R) a w)
  (hz:∀x y u,F 0 x y u=none:=by intros;rfl)(hl:aK l (kl l dr nk)=some (nf l dr nk (nv x y u)):=by kernel_rfl)(hL:L=L' x y u:=by rfl):T D n M X w0 l L λa w=>(Code.loop c).wp P (Qs N ES R) a w:=
 λa w H hS=>gb (λk a w=>∃x,∃y,∃u,F k x y u=some r∧aj D n (nf l dr nk (nv x y u)) a∧SH M X w0 (L' x y u) w) ⟨k,x,y,u,hm,aj.aK H hl,by rw[←hL];exact hS⟩ λm a w=>by
  rintro⟨x,y,u,hm,H,hS⟩;cases m with
  |zero=>rw[hz]at hm;cases hm
  |succ k=>exact h k x y u hm a w H hS
theorem ug3{F:Nat→α→β→δ→Option ρ}{r:ρ}{k:Nat}{x:α}{y:β}{u:δ}{lf:α→β→δ→SF}{Lf:α→β→δ→List aB}(hm:F k x y u=some r)(hl:aK l (ky (lf x y u))=some (lf x y u):=by kernel_rfl)(hL:L=Lf x y u:=by rfl):T D n M X w0 l L (TN F r (k+1) D n M X w0 lf Lf):=
 λ_ _ H hS=>⟨k,Nat.lt_succ_self _,x,y,u,hm,aj.aK H hl,by rw[←hL];exact hS⟩
theorem uw3{F:Nat→α→β→δ→Option ρ}{r:ρ}{k:Nat}{x:α}{y:β}{u:δ}{lf:α→β→δ→SF}{Lf:α→β→δ→List aB}(q:List (Pk (SH M X w0 L)))(hm:F k x y u=some r)(he:jG P n all (gK q) l (ky (lf x y u))=some (lf x y u,gM q):=by kernel_rfl)(hL:L=Lf x y u:=by rfl):T D n M X w0 l L λa w=>(Code.region id all.toArray false).wp P (Qs (TN F r (k+1) D n M X w0 lf Lf) ES R) a w:=
 A8 _ q (λ_ _ H hS=>⟨k,Nat.lt_succ_self _,x,y,u,hm,H,by rw[←hL];exact hS⟩) he
abbrev TP(F:Nat→α→β→δ→Option ρ)(r:ρ)(k:Nat)(D:List Deferred)(n:Nat)(M:Av)(X:List Nat)(w0:World)(l:α→β→δ→γ→SF)(L:α→β→δ→γ→List aB):eQ:=λa w=>∃m,m<k∧∃x,∃y,∃u,∃g,F m x y u=some r∧aj D n (l x y u g) a∧SH M X w0 (L x y u g) w
theorem P1{F:Nat→α→β→δ→Option ρ}{r:ρ}{k:Nat}{x:α}{y:β}{u:δ}(dr nk:List Nat)(nv:α→β→δ→γ→List Value)(L':α→β→δ→γ→List aB)(g:γ)(hm:F k x y u=some r)(h:∀k x y u g,F (k+1) x y u=some r→T D n M X w0 (nf l dr nk (nv x y u g)) (L' x y u g) λa w=>c.wp P (Qs (TP F r (k+1) D n M X w0 (λx y u g=>nf l dr nk (nv x y u g)) L') ES R) a w)
  (hz:∀x y u,F 0 x y u=none:=by intros;rfl)(hl:aK l (kl l dr nk)=some (nf l dr nk (nv x y u g)):=by kernel_rfl)(hL:L=L' x y u g:=by rfl):T D n M X w0 l L λa w=>(Code.loop c).wp P (Qs N ES R) a w:=
 λa w H hS=>gb (λk a w=>∃x,∃y,∃u,∃g,F k x y u=some r∧aj D n (nf l dr nk (nv x y u g)) a∧SH M X w0 (L' x y u g) w) ⟨k,x,y,u,g,hm,aj.aK H hl,by rw[←hL];exact hS⟩ λm a w=>by
  rintro⟨x,y,u,g,hm,H,hS⟩;cases m with
  |zero=>rw[hz]at hm;cases hm
  |succ k=>exact h k x y u g hm a w H hS
theorem a0W{F:Nat→α→β→δ→Option ρ}{r:ρ}{k:Nat}{x:α}{y:β}{u:δ}{lf:α→β→δ→γ→SF}{Lf:α→β→δ→γ→List aB}(g:γ)(hm:F k x y u=some r)(hl:aK l (ky (lf x y u g))=some (lf x y u g):=by kernel_rfl)(hL:L=Lf x y u g:=by rfl):T D n M X w0 l L (TP F r (k+1) D n M X w0 lf Lf):=
 λ_ _ H hS=>⟨k,Nat.lt_succ_self _,x,y,u,g,hm,aj.aK H hl,by rw[←hL];exact hS⟩
theorem a0X{F:Nat→α→β→δ→Option ρ}{r:ρ}{k:Nat}{x:α}{y:β}{u:δ}{lf:α→β→δ→γ→SF}{Lf:α→β→δ→γ→List aB}(q:List (Pk (SH M X w0 L)))(g:γ)(hm:F k x y u=some r)(he:jG P n all (gK q) l (ky (lf x y u g))=some (lf x y u g,gM q):=by kernel_rfl)(hL:L=Lf x y u g:=by rfl):T D n M X w0 l L λa w=>(Code.region id all.toArray false).wp P (Qs (TP F r (k+1) D n M X w0 lf Lf) ES R) a w:=
 A8 _ q (λ_ _ H hS=>⟨k,Nat.lt_succ_self _,x,y,u,g,hm,H,by rw[←hL];exact hS⟩) he
abbrev TQ(F:Nat→α→β→δ→ε→Option ρ)(r:ρ)(k:Nat)(D:List Deferred)(n:Nat)(M:Av)(X:List Nat)(w0:World)(l:α→β→δ→ε→SF)(L:α→β→δ→ε→List aB):eQ:=λa w=>∃m,m<k∧∃x,∃y,∃u,∃v,F m x y u v=some r∧aj D n (l x y u v) a∧SH M X w0 (L x y u v) w
theorem P2{F:Nat→α→β→δ→ε→Option ρ}{r:ρ}{k:Nat}{x:α}{y:β}{u:δ}{v:ε}(dr nk:List Nat)(nv:α→β→δ→ε→List Value)(L':α→β→δ→ε→List aB)(hm:F k x y u v=some r)(h:∀k x y u v,F (k+1) x y u v=some r→T D n M X w0 (nf l dr nk (nv x y u v)) (L' x y u v) λa w=>c.wp P (Qs (TQ F r (k+1) D n M X w0 (λx y u v=>nf l dr nk (nv x y u v)) L') ES R) a w)
  (hz:∀x y u v,F 0 x y u v=none:=by intros;rfl)(hl:aK l (kl l dr nk)=some (nf l dr nk (nv x y u v)):=by kernel_rfl)(hL:L=L' x y u v:=by rfl):T D n M X w0 l L λa w=>(Code.loop c).wp P (Qs N ES R) a w:=
 λa w H hS=>gb (λk a w=>∃x,∃y,∃u,∃v,F k x y u v=some r∧aj D n (nf l dr nk (nv x y u v)) a∧SH M X w0 (L' x y u v) w) ⟨k,x,y,u,v,hm,aj.aK H hl,by rw[←hL];exact hS⟩ λm a w=>by
  rintro⟨x,y,u,v,hm,H,hS⟩;cases m with
  |zero=>rw[hz]at hm;cases hm
  |succ k=>exact h k x y u v hm a w H hS
theorem ug4{F:Nat→α→β→δ→ε→Option ρ}{r:ρ}{k:Nat}{x:α}{y:β}{u:δ}{v:ε}{lf:α→β→δ→ε→SF}{Lf:α→β→δ→ε→List aB}(hm:F k x y u v=some r)(hl:aK l (ky (lf x y u v))=some (lf x y u v):=by kernel_rfl)(hL:L=Lf x y u v:=by rfl):T D n M X w0 l L (TQ F r (k+1) D n M X w0 lf Lf):=
 λ_ _ H hS=>⟨k,Nat.lt_succ_self _,x,y,u,v,hm,aj.aK H hl,by rw[←hL];exact hS⟩
theorem TR{F:Nat→α→β→δ→ε→Option ρ}{r:ρ}{k:Nat}{x:α}{y:β}{u:δ}{v:ε}{lf:α→β→δ→ε→SF}{Lf:α→β→δ→ε→List aB}(q:List (Pk (SH M X w0 L)))(hm:F k x y u v=some r)(he:jG P n all (gK q) l (ky (lf x y u v))=some (lf x y u v,gM q):=by kernel_rfl)(hL:L=Lf x y u v:=by rfl):T D n M X w0 l L λa w=>(Code.region id all.toArray false).wp P (Qs (TQ F r (k+1) D n M X w0 lf Lf) ES R) a w:=
 A8 _ q (λ_ _ H hS=>⟨k,Nat.lt_succ_self _,x,y,u,v,hm,H,by rw[←hL];exact hS⟩) he
abbrev TS(F:Nat→α→β→δ→ε→Option ρ)(r:ρ)(k:Nat)(D:List Deferred)(n:Nat)(M:Av)(X:List Nat)(w0:World)(l:α→β→δ→ε→γ→SF)(L:α→β→δ→ε→γ→List aB):eQ:=λa w=>∃m,m<k∧∃x,∃y,∃u,∃v,∃g,F m x y u v=some r∧aj D n (l x y u v g) a∧SH M X w0 (L x y u v g) w
theorem a7C{F:Nat→α→β→δ→ε→Option ρ}{r:ρ}{k:Nat}{x:α}{y:β}{u:δ}{v:ε}(dr nk:List Nat)(nv:α→β→δ→ε→γ→List Value)(L':α→β→δ→ε→γ→List aB)(g:γ)(hm:F k x y u v=some r)(h:∀k x y u v g,F (k+1) x y u v=some r→T D n M X w0 (nf l dr nk (nv x y u v g)) (L' x y u v g) λa w=>c.wp P (Qs (TS F r (k+1) D n M X w0 (λx y u v g=>nf l dr nk (nv x y u v g)) L') ES R) a w)
  (hz:∀x y u v,F 0 x y u v=none:=by intros;rfl)(hl:aK l (kl l dr nk)=some (nf l dr nk (nv x y u v g)):=by kernel_rfl)(hL:L=L' x y u v g:=by rfl):T D n M X w0 l L λa w=>(Code.loop c).wp P (Qs N ES R) a w:=
 λa w H hS=>gb (λk a w=>∃x,∃y,∃u,∃v,∃g,F k x y u v=some r∧aj D n (nf l dr nk (nv x y u v g)) a∧SH M X w0 (L' x y u v g) w) ⟨k,x,y,u,v,g,hm,aj.aK H hl,by rw[←hL];exact hS⟩ λm a w=>by
  rintro⟨x,y,u,v,g,hm,H,hS⟩;cases m with
  |zero=>rw[hz]at hm;cases hm
  |succ k=>exact h k x y u v g hm a w H hS
theorem a7D{F:Nat→α→β→δ→ε→Option ρ}{r:ρ}{k:Nat}{x:α}{y:β}{u:δ}{v:ε}{lf:α→β→δ→ε→γ→SF}{Lf:α→β→δ→ε→γ→List aB}(g:γ)(hm:F k x y u v=some r)(hl:aK l (ky (lf x y u v g))=some (lf x y u v g):=by kernel_rfl)(hL:L=Lf x y u v g:=by rfl):T D n M X w0 l L (TS F r (k+1) D n M X w0 lf Lf):=
 λ_ _ H hS=>⟨k,Nat.lt_succ_self _,x,y,u,v,g,hm,aj.aK H hl,by rw[←hL];exact hS⟩
theorem a7E{F:Nat→α→β→δ→ε→Option ρ}{r:ρ}{k:Nat}{x:α}{y:β}{u:δ}{v:ε}{lf:α→β→δ→ε→γ→SF}{Lf:α→β→δ→ε→γ→List aB}(q:List (Pk (SH M X w0 L)))(g:γ)(hm:F k x y u v=some r)(he:jG P n all (gK q) l (ky (lf x y u v g))=some (lf x y u v g,gM q):=by kernel_rfl)(hL:L=Lf x y u v g:=by rfl):T D n M X w0 l L λa w=>(Code.region id all.toArray false).wp P (Qs (TS F r (k+1) D n M X w0 lf Lf) ES R) a w:=
 A8 _ q (λ_ _ H hS=>⟨k,Nat.lt_succ_self _,x,y,u,v,g,hm,H,by rw[←hL];exact hS⟩) he
end
section
variable {n:Nat} {M:Av} {X:List Nat} {w0:World} {l:SF} {L E:List aB} {ES:List (Nat×eQ)} {P:Program} {all:List Oper} {id:Nat} {fn:Func} {N:eQ}
theorem Ho(hr:fn.results=#[]:=by rfl):Rs P fn l L (.tuple ⟨[]⟩):=rs0 hr
theorem bo{t:Nat}{v:Value}(hr:fn.results=#[.tmp t]:=by rfl)(h:gw l t=some ([],v):=by kernel_rfl):Rs P fn l L v:=KD hr h
theorem fk{t s:Nat}{v u:Value}(hr:fn.results=#[.tmp t,.tmp s]:=by rfl)(h:gw l t=some ([],v):=by kernel_rfl)(h2:gw l s=some ([],u):=by kernel_rfl):Rs P fn l L (.tuple ⟨[v,u]⟩):=rs2 hr h h2
theorem Hp(k:Nat){t b:Nat}{Y:TypeId}{cs:List Value}{d:TypeDesc}(hu:P.underlying Y=some d)(hr:fn.results=#[.cell t Y]:=by rfl)(hk:L[k]?=some (.my b cs):=by rfl)(h:gw l t=some ([],.pointer (some ⟨b,0,none⟩)):=by kernel_rfl)
  (hd:(match d with| .struct _| .array _ _=>true|_=>false)=true:=by rfl)(hz:(P.info? Y).map (·.size)=some cs.length:=by kernel_rfl):Rs P fn l L (.agg ⟨cs⟩):=rsa k hu hr h hk hd hz
theorem mA(k:Nat){t b s:Nat}{u:Value}{Y:TypeId}{cs:List Value}{d:TypeDesc}(hu:P.underlying Y=some d)(hr:fn.results=#[.cell t Y,.tmp s]:=by rfl)(hk:L[k]?=some (.my b cs):=by rfl)(h:gw l t=some ([],.pointer (some ⟨b,0,none⟩)):=by kernel_rfl)(h2:gw l s=some ([],u):=by kernel_rfl)
  (hd:(match d with| .struct _| .array _ _=>true|_=>false)=true:=by rfl)(hz:(P.info? Y).map (·.size)=some cs.length:=by kernel_rfl):Rs P fn l L (.tuple ⟨[.agg ⟨cs⟩,u]⟩):=a7A k hu hr h h2 hk hd hz
theorem uZ{t:Nat}{v:Value}(ks:List Nat)(q:List (Pk (SH M X w0 L)))(hr:fn.results=#[.tmp t]:=by rfl)(he:jG P n all (gK q) l [t]=some ([(t,[],v)],gM q):=by kernel_rfl)(hE:eE L ks=E:=by rfl)(hk:kM L ks=true:=by rfl):
  T [] n M X w0 l L λa w=>(Code.seq (.region id all.toArray false) .ret).wp P (Qs N ES (Rp P fn (Pn v E M X w0))) a w:=El _ q (aL (bf ks (KD hr (by simp[gw])) hE hk)) he
theorem uY{t s:Nat}{v u:Value}(ks:List Nat)(q:List (Pk (SH M X w0 L)))(hr:fn.results=#[.tmp t,.tmp s]:=by rfl)(he:jG P n all (gK q) l [t,s]=some ([(t,[],v),(s,[],u)],gM q):=by kernel_rfl)(kK:Nat.beq t s=false:=by rfl)(hE:eE L ks=E:=by rfl)(hk:kM L ks=true:=by rfl):
  T [] n M X w0 l L λa w=>(Code.seq (.region id all.toArray false) .ret).wp P (Qs N ES (Rp P fn (Pn (.tuple ⟨[v,u]⟩) E M X w0))) a w:=El _ q (aL (bf ks (rs2 hr (by simp[gw]) (by simp[gw,kK])) hE hk)) he
end
section
variable {P:Program} {D:List Deferred} {n:Nat} {M:Av} {l:SF} {ty:TypeId} {pos:String} {after:Array Edge}
theorem oS{t:TypeId}{x y:Operand}{b off:Nat}{v:Value}{cs:List Value}(E8:List Value)
  (hx:ev l [] x=some (.pointer (some ⟨b,off,none⟩)))(hy:ev l [] y=some v)(hz:(P.info? t).map (·.size)=some v.cells.toList.length:=by kernel_rfl)(h1:qY v.cells.toList=true:=by kernel_rfl)(hl:Nat.ble (off+v.cells.toList.length) cs.length=true:=by kernel_rfl)(hs:kZ cs off v.cells.toList=E8:=by kernel_rfl):
  ∀a w,aj D n l a→S0 M [.my b cs] w→bg P ⟨none,.store t x y,ty,pos,after,none⟩ a w λ_ w'=>SH M (aD [.my b cs]) w [.my b E8] w':=λ_ _ H hS=>r8 E8 H hS hx hy hz h1 hl hs
theorem oA{d:Option Tmp}{E:TypeId}(cs:List Value)(hz:(P.info? E).map (·.zero)=some (some (.agg ⟨cs⟩)):=by kernel_rfl):
  ∀a w,aj D n l a→S0 M [] w→bg P ⟨d,.alloc E,ty,pos,after,none⟩ a w λu w'=>∃b:Nat,u=.pointer (some ⟨b,0,none⟩)∧SH M (aD []) w [.my b cs] w':=λ_ _ _ hS=>vR cs (z:=.agg ⟨cs⟩) hS hz rfl
theorem oB{d:Option Tmp}{E:TypeId}{x:Operand}{v:Value}(cs:List Value)(hx:ev l [] x=some v)(hc:v.cells.toList=cs:=by kernel_rfl):
  ∀a w,aj D n l a→S0 M [] w→bg P ⟨d,.box E x,ty,pos,after,none⟩ a w λu w'=>∃b:Nat,u=.pointer (some ⟨b,0,none⟩)∧SH M (aD []) w [.my b cs] w':=λ_ _ H hS=>a6V cs H hS hx hc
theorem oL{α:Type}(T:Ty α){d:Nat}{t:TypeId}(E:TypeId){len:Nat}(zv:Value){parts:Array (Nat×Operand)}{L:List aB}(xs:List α)(gs:List (Nat→Gh)){vs:List Value}(jo:∀{w},S0 M L w→ba T (ep M L) w xs gs)(he:pq l [] (parts.toList.map (·.2))=some vs)
  (hu:P.underlying t=some (.slice E):=by kernel_rfl)(hz:(P.info? E).map (·.size)=some T.z:=by kernel_rfl)(qZ:(P.info? E).map (·.zero)=some (some zv):=by kernel_rfl)(hlen:Nat.ble (len*T.z) 16777216=true:=by kernel_rfl)(p7:Nat.blt 0 (len*T.z)=true:=by kernel_rfl)
  (hf:Instr.fill (λi=>some (i*T.z,T.z)) ((Array.range (len*T.z)).map (zv.cells[· %zv.cells.size]!)) ((parts.toList.map (·.1)).zip vs)=some ⟨((dt xs (sL gs) 0).map (gn T)).flatten⟩:=by kernel_rfl)(pT:xs.length=len:=by kernel_rfl):
  ∀a w,aj D n l a→S0 M L w→bg P ⟨some d,.buildSlice t len parts,ty,pos,after,none⟩ a w λv w'=>∃g:Gh,v=.slice g.a len g.c∧SH M (aD L) w [.own E T xs g] w':=λ_ _ H hS=>OK _ xs gs vs H hS he hu hz qZ hlen p7 hf rfl pT (jo hS)
theorem oM{α:Type}(T:Ty α){d:Nat}{t:TypeId}(E:TypeId){len:Nat}(zv:Value){parts:Array (Nat×Operand)}{L:List aB}(xs:List α)(gs:List (Nat→Gh)){vs:List Value}{a:Act}{w:World}(H:aj D n l a)(hS:S0 M L w)(he:pq l [] (parts.toList.map (·.2))=some vs)(jo:ba T (ep M L) w xs gs)
  (hu:P.underlying t=some (.slice E):=by kernel_rfl)(hz:(P.info? E).map (·.size)=some T.z:=by kernel_rfl)(qZ:(P.info? E).map (·.zero)=some (some zv):=by kernel_rfl)(hlen:Nat.ble (len*T.z) 16777216=true:=by kernel_rfl)(p7:Nat.blt 0 (len*T.z)=true:=by kernel_rfl)
  (hf:Instr.fill (λi=>some (i*T.z,T.z)) ((Array.range (len*T.z)).map (zv.cells[· %zv.cells.size]!)) ((parts.toList.map (·.1)).zip vs)=some ⟨((dt xs (sL gs) 0).map (gn T)).flatten⟩:=by kernel_rfl)(pT:xs.length=len:=by kernel_rfl):
  bg P ⟨some d,.buildSlice t len parts,ty,pos,after,none⟩ a w λv w'=>∃g:Gh,v=.slice g.a len g.c∧SH M (aD L) w [.own E T xs g] w':=OK _ xs gs vs H hS he hu hz qZ hlen p7 hf rfl pT jo
theorem oP{α:Type}(T:Ty α){d:Nat}{s x:Operand}{t e e2:TypeId}(zv:Value)(g1 g2:Gh){n1 n2 c1 c2:Nat}{a1 a2:Option Addr}{l1 l2 q:List α}(hq:q=l1++l2)(hl:V.ln l1+V.ln l2≤137438953472)
  (hs:ev l [] s=some (.slice a1 n1 c1))(hx:ev l [] x=some (.slice a2 n2 c2))(vX:g1.a=a1:=by kernel_rfl)(qu:g1.c=c1:=by kernel_rfl)(E9:g2.a=a2:=by kernel_rfl)(qn:l1.length=n1:=by kernel_rfl)(qo:l2.length=n2:=by kernel_rfl)
  (hu:P.underlying t=some (.slice e):=by kernel_rfl)(hi:(P.info? e).map (λi=>(i.size,Nat.ble i.bytes 1024,i.zero))=some (T.z,true,some zv):=by kernel_rfl)(qp:zv.cells.size=T.z:=by kernel_rfl)(hz:Nat.blt 0 T.z=true:=by kernel_rfl):
  ∀a w,aj D n l a→S0 M [.own e T l1 g1,.own e2 T l2 g2] w→bg P ⟨some d,.call ⟨.builtin .append,#[s,x],#[t,t]⟩,ty,pos,after,none⟩ a w λv w'=>∃g:Gh,v=.slice g.a q.length g.c∧SH M (aD [.own e T l1 g1,.own e2 T l2 g2]) w [.own e T q g,.own e2 T l2 g2] w':=
 λ_ _ H hS=>Ea q hq.symm H hS hs hx vX qu E9 qn qo hu hi qp hz hl
end
abbrev gT(b:Bool):Prop:=b=true∧True
abbrev gF(b:Bool):Prop:=b=false∧True
theorem SH.a7F{M:Av}{X:List Nat}{w0 w:World}{L:List aB}{e:aB}(hf:e.fp=[])(h:SH M X w0 (e::L) w):SH M X w0 L w:=by
  have E6:aD (e::L)=aD L:=by simp[aD,hf]
  have Kl:ep M (e::L)=ep M L:=by unfold ep;rw[E6]
  have Kx:=h.nd;rw[List.pairwise_cons]at Kx;exact⟨h.kp,Kx.2,λb hb=>h.lo b (by rw[E6];exact hb),λb hb=>h.nm b (by rw[E6];exact hb),h.mx,λe' he=>by
    have:=h.ps e' (List.mem_cons_of_mem _ he);rw[Kl]at this;exact this⟩
theorem SH.TT{M:Av}{X:List Nat}{w0 w:World}{L:List aB}:∀A:List aB,(∀e∈A,e.fp=[])→SH M X w0 (A++L) w→SH M X w0 L w
  |[],_,h=>h
  |e::A,hf,h=>SH.TT A (λe' he=>hf e' (List.mem_cons_of_mem _ he)) (h.a7F (hf e (List.mem_cons_self ..)))
/-- How an element is read, what it holds, and how it is stored. -/
structure KE{α:Type}[Inhabited α](T:Ty α) where
  rd:α→(Nat→Gh)→Value
  lf:α→(Nat→Gh)→List aB
  rb:α→(Nat→Gh)→Nat→Nat→Ob
  P3:∀x gs,∀e∈lf x gs,e.fp=[]
  E0:∀{M:Av}{E:TypeId}{q:List α}{g:Gh}{w:World}{z:Int},S0 M [.own E T q g] w→0≤z∧z<ln q→rb (gi q z) (g.s z.toNat) (ab g.a) (ao g.a+z.toNat*T.z) w
  add:∀{M:Av}{X:List Nat}{w0 w:World}{E:TypeId}{q:List α}{g:Gh}{z:Int},SH M X w0 [.own E T q g] w→0≤z∧z<ln q→SH M X w0 (lf (gi q z) (g.s z.toNat)++[.own E T q g]) w
  TU:∀{P:Program}{n:Nat}{M:Av}{l:SF}{a:Act}{w:World}{t E ty:TypeId}{xo yo:Operand}{pos:String}{after:Array Edge}{qa:List α}{ga:Gh}{z:Int}{el:α}{ge:Nat→Gh},aj [] n l a→S0 M (lf el ge++[.own E T qa ga]) w→ev l [] xo=some (.pointer (some ⟨ab ga.a,ao ga.a+z.toNat*T.z,none⟩))→ev l [] yo=some (rd el ge)→(P.info? t).map (·.size)=some T.z→0≤z∧z<ln qa→bg P ⟨none,.store t xo yo,ty,pos,after,none⟩ a w λ_ w2=>∃s:Nat→Nat→Gh,SH M (aD (lf el ge++[.own E T qa ga])) w (.own E T (cj qa z el) (.mk ga.a ga.c s)::lf el ge) w2
def rZ{α:Type}(Y:Ty α):KE (Ty.sl Y) where
  rd:=λx gs=>.slice (gs 0).a x.length (gs 0).c
  lf:=λx gs=>[.im Y x (gs 0)]
  rb:=λx gs b o=>c9 ⟨b,o,none⟩ (.slice (gs 0).a x.length (gs 0).c)
  P3:=λx gs e he=>by rw[List.mem_singleton.1 he];rfl
  E0:=λhS hz=>(hS.bD 0 rfl).c9 hz 0 rfl
  add:=λhS hz=>hS.eF (fH ((hS.ow 0 rfl).el hz))
  TU:=λ{P n M l a w t E ty xo yo pos after qa ga z el ge} H hS hx hy ht hz=>by
    have hd:=hS.hand [1,0] [0] rfl rfl;refine bg.mono (A2 (T:=Ty.sl Y) (g:=ga) (q:=qa) (ix:=z) (off:=0) el ge H hd hx rfl rfl hy ht rfl rfl hz rfl (hd.im 1 rfl) rfl) ?_;rintro v w2 ⟨s,hq⟩;exact⟨s,hS.join [1,0] [0] rfl rfl hq⟩
/-- How the two places are told: by a slot each, or worked out. -/
inductive Sh4 where
  |s2
  |s3 (v:Value)
  |s4 (u v:Value)
  |s8 (s t u v:Value)
namespace Sh4
def a:Sh4→Nat
  | .s8 _ _ _ _=>4
  |_=>2
def b:Sh4→Nat
  | .s2=>2
  | .s3 _=>3
  |_=>4
def ca:Sh4→List Value
  | .s8 s t _ _=>[s,t]
  |_=>[]
def cb:Sh4→List Value
  | .s2=>[]
  | .s3 v=>[v]
  | .s4 u v=>[u,v]
  | .s8 _ _ u v=>[u,v]
def n(h:Sh4):Nat:=2*h.a+2*h.b+8
def p1(h:Sh4):Nat:=h.a+h.b+h.b+1
def e0(h:Sh4):Nat:=2*h.a+2*h.b+4
def si(k n:Nat):List (List Nat):=(List.range (n-1)).map (λi=>[k+i])++[List.range' (k+1) (n-1)]
def U(h:Sh4):List (List Nat):=(List.range h.n).map λi=>cond (Nat.beq i (h.e0+1)) [h.p1,h.n] (cond (Nat.beq i (h.e0+2)) [h.e0+1] (cond (Nat.beq i (h.e0+3)) [h.e0-1,h.e0+1] (cond (Nat.beq i h.p1||(Nat.beq i (h.p1-1)||(Nat.beq i (h.e0-1)||(Nat.beq i (h.e0-2)||Nat.beq i h.e0)))) [h.n] [])))
def C(h:Sh4):List (List Nat):=List.replicate (h.e0+1) []++[[h.n],[],[h.e0+1]]
def S(h:Sh4):List (List Nat):=si 0 h.a++(si h.a h.b++(si (h.a+h.b) h.b++([List.range' (h.a+h.b) (h.b+1),List.range' (h.a+h.b) (h.b+2)]++(si (h.p1+1) h.a++[List.range' (h.p1+1) (h.a+1),List.range' (h.p1+1) (h.a+2),List.range h.a++[h.e0],List.range h.a++(List.range' (h.a+h.b) (h.b+2)++[h.e0,h.e0+1]),List.range (h.p1+1)++[h.e0,h.e0+1,h.e0+2],List.range h.n]))))
def ix(h:Sh4):List Nat:=List.range (h.e0+1)++[h.e0+2]
end Sh4
section
variable {α:Type} [Inhabited α] {T:Ty α} (h:Sh4) (R:KE T) (E:TypeId) (q q1 q2:List α) (g:Gh) (x y:Int)
def swp(T:Ty α)(g:Gh)(z:Int):Value:=.pointer (some ⟨ab g.a,ao g.a+z.toNat*T.z,none⟩)
def A9(R:KE T)(q:List α)(g:Gh)(z:Int):Value:=R.rd (gi q z) (g.s z.toNat)
def BJ:List Value:=(.slice g.a q.length g.c::(h.ca++[.int .i64 x]))++((.slice g.a q.length g.c::(h.cb++[.int .i64 y]))++((.slice g.a q.length g.c::(h.cb++[.int .i64 y,swp T g y,A9 R q g y]))++((.slice g.a q.length g.c::(h.ca++[.int .i64 x,swp T g x,A9 R q g x]))++[swp T g x,undef,swp T g y,undef])))
def s0(o:Gm):List (List aB):=List.replicate h.p1 []++(R.lf (gi q y) (g.s y.toNat)::(List.replicate (h.a+1) []++[R.lf (gi q x) (g.s x.toNat),[],[.own E T q1 (.mk g.a g.c (o (h.e0+1) 0).s)],[],[.own E T q2 (.mk g.a g.c (o (h.e0+3) 0).s)]]))
def swo(i:Nat):List Value:=cond (Nat.beq i h.p1) [A9 R q g y] (cond (Nat.beq i (h.e0-1)) [A9 R q g x] [])
def swb(i:Nat):Option Ob:=cond (Nat.beq i h.p1) (some (R.rb (gi q y) (g.s y.toNat) (ab g.a) (ao g.a+y.toNat*T.z))) (cond (Nat.beq i (h.e0-1)) (some (R.rb (gi q x) (g.s x.toNat) (ab g.a) (ao g.a+x.toNat*T.z)))
  (cond (Nat.beq i (h.p1-1)||Nat.beq i (h.e0+2)) (some λ_=>eg g.a∧0≤y∧y<ln q) (cond (Nat.beq i (h.e0-2)||Nat.beq i h.e0) (some λ_=>eg g.a∧0≤x∧x<ln q) none)))
/-- An operation that stores. -/
def TV(P:Program)(k:Nat)(l:SF)(all:List Oper)(i:Nat)(p v:Value):Prop:=∃t x y ty pos after,all[i]?=some ⟨none,.store t x y,ty,pos,after,none⟩∧ev l [] x=some p∧ev l [] y=some v∧(P.info? t).map (·.size)=some k
def P4(all:List Oper)(l:SF)(i:Nat):SF:=Ej all (BJ h R q g x y) i (h.S.getD i [])++l
def SwH(P:Program)(n:Nat)(all:List Oper)(l:SF)(L:List aB):Prop:=
  P.follows .mixedOrders=true∧(rU n l all&&(yH all&&(yL h.n (L.length+1) all h.U h.C h.S&&(all.all (λo=>o.guard.isNone)&&Nat.beq all.length h.n))))=true∧
  (h.ix.map λi=>(all[i]?).bind λo=>Bz P (P4 h R q g x y all l i) [] o.op (swo h R q g x y i))=h.ix.map (λi=>some ⟨(BJ h R q g x y).getD i undef,[],swb h R q g x y i⟩)∧
  TV P T.z (P4 h R q g x y all l (h.e0+1)) all (h.e0+1) (swp T g x) (A9 R q g y)∧TV P T.z (P4 h R q g x y all l (h.e0+3)) all (h.e0+3) (swp T g y) (A9 R q g x)∧
  ∀o,cZ h.n (s0 h R E q q1 q2 g x y) (.own E T q g::L) o (w9 h.n (L.length+1) h.C)=R.lf (gi q y) (g.s y.toNat)++(R.lf (gi q x) (g.s x.toNat)++(.own E T q2 (.mk g.a g.c (o (h.e0+3) 0).s)::L))
end
section
variable {n:Nat} {M:Av} {X:List Nat} {w0:World} {L:List aB} {N R':eQ} {ES:List (Nat×eQ)} {P:Program} {all:List Oper} {id:Nat} {α:Type} [Inhabited α] {T':Ty α} {E:TypeId} {l:SF} {g:Gh}
theorem uX(R:KE T')(h:Sh4)(s:Nat){q q1 q2:List α}{x y:Int}(hx:0≤x∧x<ln q)(hy:0≤y∧y<ln q)(e1:q1=cj q x (gi q y))(hy1:0≤y∧y<ln q1)(e2:q2=cj q1 y (gi q x))
  (k:∀g':Gh,g'.a=g.a∧g'.c=g.c∧q2.length=q.length→T [] n M X w0 ((s,[],.slice g'.a q2.length g'.c)::dl [s] l) (.own E T' q2 g'::L) N)
  (hk:aK l (s::ky (dl [s] l))=some ((s,[],.slice g.a q.length g.c)::dl [s] l):=by kernel_rfl)
  (o:SwH h R E q q1 q2 g x y P n all ((s,[],.slice g.a q.length g.c)::dl [s] l) L:=by exact⟨by kernel_rfl,by kernel_rfl,by kernel_rfl,⟨_,_,_,_,_,_,rfl,by kernel_rfl,by kernel_rfl,by kernel_rfl⟩,⟨_,_,_,_,_,_,rfl,by kernel_rfl,by kernel_rfl,by kernel_rfl⟩,by intro _;kernel_rfl⟩):
  T [] n M X w0 l (.own E T' q g::L) λa w=>(Code.region id all.toArray true).wp P (Qs N ES R') a w:=by
 intro a w H hS;replace H:=aj.aK H hk;clear hk;generalize dl [s] l=l at*;obtain⟨hm,jn,hp,h1,h2,hf⟩:=o;simp only[Bool.and_eq_true]at jn;obtain⟨k1,k2,k3,k4,k5⟩:=jn;have he:=λi (hi:iC h.ix i=true)=>List.map_inj_left.1 hp i (ra.1 hi);have hl:q2.length=q.length:=by rw[e2,uu,e1,uu]
 refine Ek h.n (L.length+1) (λ_=>BJ h R q g x y) (s0 h R E q q1 q2 g x y) h.U h.C h.S [] H (λ_ _ h=>by cases h) rfl hS hm (Nat.eq_of_beq_eq_true k5) rfl k1 k2 k3 (nI k4 _ _) ?_ (λa' w' yg H' _ hS=>?_) ?_
 rotate_left
 · rw[hf]at hS;refine k (.mk g.a g.c (yg (h.e0+3) 0).s) ⟨rfl,rfl,hl⟩ _ _ ?_ (SH.TT _ (R.P3 _ _) (SH.TT _ (R.P3 _ _) hS));rw[hl];exact H'
 · cases h<;>repeat (first|exact trivial|refine And.intro (λ_=>And.intro rfl (by kernel_rfl)) ?_)
 have HL:∀{i:Nat}{z:Int},iC h.ix i=true→0≤z∧z<ln q→(BJ h R q g x y).getD i undef=A9 R q g z→swo h R q g x y i=[A9 R q g z]→swb h R q g x y i=some (R.rb (gi q z) (g.s z.toNat) (ab g.a) (ao g.a+z.toNat*T'.z))→h.U.getD i []=[h.n]→h.C.getD i []=[]→Nat.blt h.n h.n=false→(∀y',(s0 h R E q q1 q2 g x y y').getD i []=R.lf (gi q z) (g.s z.toNat))→
   ∀o,all[i]?=some o→∀a' w' (y':Gm) M',aj [] n ((s,[],.slice g.a q.length g.c)::l) a'→(∀j∈h.S.getD i [],j≠i→∀d,ef all j=some d→a'.tmps[d]?=some ((BJ h R q g x y).getD j undef))→(∀(k:Nat) e,([]:List (Nat×Nat×Value))[k]?=some e→(Nat.beq e.2.1 i||reach all h.n e.2.1 i)=true→a'.tmps[e.1]?=some e.2.2)→S0 M' (cZ h.n (s0 h R E q q1 q2 g x y) (.own E T' q g::L) y' (h.U.getD i [])) w'→
   bg P (uv o) a' w' λv w2=>∃g':Nat→Gh,(∀d,ef all i=some d→v=(BJ h R q g x y).getD i undef)∧SH M' (aD (cZ h.n (s0 h R E q q1 q2 g x y) (.own E T' q g::L) y' (h.U.getD i []))) w' ((s0 h R E q q1 q2 g x y (e9 y' i g')).getD i []++cZ h.n (s0 h R E q q1 q2 g x y) (.own E T' q g::L) y' ((h.U.getD i []).filter λj=>!(iC (h.C.getD i []) j))) w2:=by
  intro i z hi hz c1 c2 c3 c4 c5 c6 c7 o ho a' w' y' M' Hb hv _ hS;have hr:cZ h.n (s0 h R E q q1 q2 g x y) (.own E T' q g::L) y' [h.n]=[.own E T' q g]:=by
   rw[cZ,c6,Nat.sub_self];rfl
  rw[c4,hr]at hS;rw[c4,c5,show([h.n].filter λj=>!(iC [] j))=[h.n]from rfl,hr];have hh:=he i hi;rw[ho,Option.bind_some,c1,c2,c3]at hh;obtain⟨d,op,ty,pos,after,gd⟩:=o;refine bg.mono (pu (o:=⟨d,op,ty,pos,after,none⟩) [A9 R q g z] _ _ [] (OY Hb _ hv) rfl hh (λp e=>by cases e;exact R.E0 hS hz)) ?_;rintro v w2 ⟨rfl,hq⟩;refine⟨gL [],λ_ _=>c1.symm,?_⟩;rw[c7];exact R.add (hS.below hq.below) hz
 have HS:∀(i:Nat)(z:Int)(el:α)(ge:Nat→Gh)(qa qb:List α)(ga:Gm→Gh),0≤z∧z<ln qa→qb=cj qa z el→(∀y',(ga y').a=g.a)→TV P T'.z (P4 h R q g x y all ((s,[],.slice g.a q.length g.c)::l) i) all i (swp T' g z) (R.rd el ge)→(∀y',cZ h.n (s0 h R E q q1 q2 g x y) (.own E T' q g::L) y' (h.U.getD i [])=R.lf el ge++[.own E T' qa (ga y')])→(∀y',cZ h.n (s0 h R E q q1 q2 g x y) (.own E T' q g::L) y' ((h.U.getD i []).filter λj=>!(iC (h.C.getD i []) j))=R.lf el ge++[])→(∀y' (g':Nat→Gh),(s0 h R E q q1 q2 g x y (e9 y' i g')).getD i []=[.own E T' qb (.mk (ga y').a (ga y').c (g' 0).s)])→
   ∀o,all[i]?=some o→∀a' w' (y':Gm) M',aj [] n ((s,[],.slice g.a q.length g.c)::l) a'→(∀j∈h.S.getD i [],j≠i→∀d,ef all j=some d→a'.tmps[d]?=some ((BJ h R q g x y).getD j undef))→(∀(k:Nat) e,([]:List (Nat×Nat×Value))[k]?=some e→(Nat.beq e.2.1 i||reach all h.n e.2.1 i)=true→a'.tmps[e.1]?=some e.2.2)→S0 M' (cZ h.n (s0 h R E q q1 q2 g x y) (.own E T' q g::L) y' (h.U.getD i [])) w'→
   bg P (uv o) a' w' λv w2=>∃g':Nat→Gh,(∀d,ef all i=some d→v=(BJ h R q g x y).getD i undef)∧SH M' (aD (cZ h.n (s0 h R E q q1 q2 g x y) (.own E T' q g::L) y' (h.U.getD i []))) w' ((s0 h R E q q1 q2 g x y (e9 y' i g')).getD i []++cZ h.n (s0 h R E q q1 q2 g x y) (.own E T' q g::L) y' ((h.U.getD i []).filter λj=>!(iC (h.C.getD i []) j))) w2:=by
  intro i z el ge qa qb ga hz e ha kK c1 c2 c3 o ho a' w' y' M' Hb hv _ hS;obtain⟨t,xo,yo,ty,pos,after,r1,r2,r3,r4⟩:=kK;have Tn:ef all i=none:=by unfold ef;rw[r1];rfl
  rw[r1]at ho;obtain rfl:=Option.some.inj ho;rw[c1]at hS;rw[c1,c2,List.append_nil];refine bg.mono (R.TU (OY Hb _ hv) hS (by rw[ha];exact r2) r3 r4 hz) ?_;rintro v w2 ⟨s1,hq⟩;rw[←e]at hq;refine⟨gL [Gh.mk none 0 s1],λ_ h=>(by rw[Tn]at h;cases h),?_⟩;rw[c3];exact hq
 rcases h with _|v|⟨u,v⟩|⟨s',t',u,v⟩
 all_goals repeat first
  |exact trivial
  |refine And.intro (bA (λ_=>he _ rfl)) ?_
  |refine And.intro (se (λ_ _=>[⟨none,λ_=>eg g.a∧0≤y∧y<ln q,λ_ hS=>(hS.bD 0 rfl).iK hy⟩]) (λ_ _=>he _ rfl)) ?_
  |refine And.intro (se (λ_ _=>[⟨none,λ_=>eg g.a∧0≤x∧x<ln q,λ_ hS=>(hS.bD 0 rfl).iK hx⟩]) (λ_ _=>he _ rfl)) ?_
  |refine And.intro (HL rfl hy rfl rfl rfl rfl rfl rfl (λ_=>rfl)) ?_
  |refine And.intro (HL rfl hx rfl rfl rfl rfl rfl rfl (λ_=>rfl)) ?_
  |refine And.intro (HS _ x (gi q y) (g.s y.toNat) q q1 (λ_=>g) hx e1 (λ_=>rfl) h1 (λ_=>rfl) (λ_=>rfl) (λ_ _=>rfl)) ?_
  |refine And.intro (se (λo _=>[⟨none,λ_=>eg g.a∧0≤y∧y<ln q,λ_ hS=>⟨((hS.bD (E:=E) (T:=T') (l:=q1) 0 rfl).iK hy1).1,hy⟩⟩]) (λ_ _=>he _ rfl)) ?_
  |refine And.intro (HS _ y (gi q x) (g.s x.toNat) q1 q2 (λo=>.mk g.a g.c (o _ 0).s) hy1 e2 (λ_=>rfl) h2 (λ_=>rfl) (λ_=>rfl) (λ_ _=>rfl)) ?_
theorem fl{β γ δ:Type}{a a' a2:β}{b b' b2:γ}{c c' c2:δ}(h:a=a'∧b=b'∧c=c')(k:a'=a2∧b'=b2∧c'=c2):a=a2∧b=b2∧c=c2:=⟨h.1.trans k.1,h.2.1.trans k.2.1,h.2.2.trans k.2.2⟩
end
section
variable {D:List Deferred}
def pU:Nat→List (a7×Value)→List MapEntry
 |_,[]=>[]
 |i,x::r=>⟨.string ⟨⟨x.1⟩⟩,x.2,i⟩::pU (i+1) r
def Mp(w:World)(b:Nat)(l:List (a7×Value)):Prop:=w.heap[b]?=some (.map ⟨pU 0 l⟩ l.length)
theorem Mp.lt{w:World}{b:Nat}{l:List (a7×Value)}(h:Mp w b l):b<w.heap.size:=by
 rcases Nat.lt_or_ge b w.heap.size with h1|h1
 ·exact h1
 ·unfold Mp at h;rw[Array.getElem?_eq_none h1]at h;cases h
theorem Mp.kp{w w':World}{b:Nat}{l:List (a7×Value)}{X:List Nat}(h:Mp w b l)(k:Kp X w w')(hX:b∉X):Mp w' b l:=(k.block b h.lt hX).trans h
def aB.we(b:Nat)(l:List (a7×Value)):aB where
 fp:=[b]
 p:=λ_ w=>Mp w b l
 kp:=λh k _ hX=>h.kp k (hX b (by simp))
 bW:=λh _=>h
 fresh:=λh=>h
 lt:=λh=>by simpa using h.lt
theorem a0Y:∀(i:Nat)(l r:List (a7×Value)),pU i (l++r)=pU i l++pU (i+l.length) r
 |i,[],r=>by simp[pU]
 |i,x::l,r=>by
  rw[List.cons_append,pU,a0Y (i+1) l r,pU,List.length_cons,show i+1+l.length=i+(l.length+1) by omega];rfl
def kx:List a7→a7→Nat
 |[],_=>0
 |x::r,s=>if s==x then 0 else kx r s+1
theorem P5:∀(l:List a7)(s:a7),kx l s≤l.length
 |[],_=>by simp[kx]
 |x::r,s=>by
  unfold kx;split
  ·simp
  ·have:=P5 r s;simp;omega
def s5(l:List a7)(s:a7):Int:=(kx l s:Int)
theorem a7G(s t:a7):((⟨⟨s⟩⟩:ByteArray)==⟨⟨t⟩⟩)=(s==t):=by
 show((⟨s⟩:Array UInt8)==⟨t⟩)=(s==t);rw[Bool.eq_iff_iff,beq_iff_eq,beq_iff_eq];exact⟨λh=>by injection h,λh=>by rw[h]⟩
theorem TW:∀(l:List (a7×Value))(s:a7)(i j:Nat),Instr.findNow .string (.string ⟨⟨s⟩⟩) (pU j l) i=some ((l[kx (l.map (·.1)) s]?).map λx=>(i+kx (l.map (·.1)) s,x.2))
 |[],s,i,j=>rfl
 |x::r,s,i,j=>by
  have ih:=TW r s (i+1) (j+1);rw[pU,Instr.findNow];show(match(some ((⟨⟨s⟩⟩:ByteArray)==⟨⟨x.1⟩⟩):Option Bool)with
   |some true=>some (some (i,x.2))
   |some false=>Instr.findNow .string (.string ⟨⟨s⟩⟩) (pU (j+1) r) (i+1)
   |none=>none)=_
  rw[a7G,List.map_cons,kx];cases s==x.1 with
  |true=>simp
  |false=>
   simp only[ih,Bool.false_eq_true,if_false,List.getElem?_cons_succ];cases r[kx (r.map (·.1)) s]? with
   |none=>rfl
   |some y=>simp;omega
section
variable {P:Program} {a:Act} {w:World} {n:Nat} {l:SF} {M:Av}
theorem a7H{w:World}{b:Nat}(o:Obj):Kp [b] w {w with heap:=w.heap.setIfInBounds b o}:=
 ⟨rfl,rfl,rfl,by simp,λk hk hx=>by
  have:k≠b:=by simpa using hx
  simp[Ne.symm this]⟩
theorem TX{d:Option Tmp}{t:TypeId}{ty:TypeId}{pos:String}{after:Array Edge}(hS:S0 M [] w):
  bg P ⟨d,.makeMap t none,ty,pos,after,none⟩ a w λu w'=>∃b:Nat,u=.map (some b)∧SH M (aD []) w [.we b []] w':=by
 refine bg.pr (v:=.map (some w.heap.size)) (w':=w.alloc (.map #[] 0)) ?_ ⟨w.heap.size,rfl,SH.step hS (Kp.yD ((Below.refl _ _).alloc (Nat.le_refl _) _) []) (by simp) (by simp[aD,aB.we]) ?_⟩
 ·simp[execOp,run_makeMap_plain]
 ·intro e he;rw[List.mem_singleton]at he;subst he;show(w.heap.push (.map #[] 0))[w.heap.size]?=some (.map ⟨pU 0 []⟩ 0);simp[pU]
theorem wg{t kt et:TypeId}{x y z:Operand}{ty:TypeId}{pos:String}{after:Array Edge}{b:Nat}{ls:List (a7×Value)}{k:a7}{v:Value}(H:aj D n l a)(hS:S0 M [.we b ls] w)
  (hx:ev l [] x=some (.map (some b)))(hy:ev l [] y=some (.string ⟨⟨k⟩⟩))(hz:ev l [] z=some v)(hm:P.underlying t=some (.map kt et))(hk:P.underlying kt=some .string)(hn:kx (ls.map (·.1)) k=ls.length):
  bg P ⟨none,.insert t x y z,ty,pos,after,none⟩ a w λ_ w'=>SH M (aD [.we b ls]) w [.we b (ls++[(k,v)])] w':=by
 have hb:Mp w b ls:=SH.at hS 0 rfl;have hf:Instr.findNow .string (.string ⟨⟨k⟩⟩) (pU 0 ls) 0=some none:=by
  rw[TW,hn,List.getElem?_eq_none (by omega)];rfl
 have hc:(Instr.checkKey false 10000 kt (.string ⟨⟨k⟩⟩)).run P w=.ok () w:=MapKept.run_checkKey (k:=.string ⟨⟨k⟩⟩) hk (by simp[MapKept.IsKey]) false 9999;refine bg.skip (w':={w with heap:=w.heap.setIfInBounds b (.map ⟨pU 0 (ls++[(k,v)])⟩ (ls.length+1))}) ?_ rfl λ_=>SH.step hS ((a7H _).wide (by simp[aD,aB.we])) (by simp) (by simp[aD,aB.we]) ?_
 ·have he:(⟨pU 0 ls⟩:Array MapEntry).push ⟨.string ⟨⟨k⟩⟩,v,ls.length⟩=⟨pU 0 (ls++[(k,v)])⟩:=by
   rw[a0Y];simp[pU]
  simp[execOp,H.ev (fw a) hx,H.ev (fw a) hy,H.ev (fw a) hz,Instr.mapUpdate,run_underlying hm,MapKept.run_getObj_map hb,hc,MapKept.run_findKey hk hf,MapKept.run_setObj_map _ hb,Result.andThen,he]
 ·intro e he;rw[List.mem_singleton]at he;subst he;show(w.heap.setIfInBounds b _)[b]?=_;rw[Array.getElem?_setIfInBounds];simp[hb.lt]
theorem a0Z{t kt et:TypeId}{b:Nat}{ls:List (a7×Value)}{k:a7}{z:Value}(F:Int→Value)(hb:Mp w b ls)(hm:P.underlying t=some (.map kt et))(hk:P.underlying kt=some .string)(hz:(P.info? et).map (·.zero)=some (some z))
  (hF:ls.map (·.2)++[z]=(List.range (ls.length+1)).map λ(i:Nat)=>F (i:Int))(c:Bool):
  (Instr.lookup t (.map (some b)) (.string ⟨⟨k⟩⟩) c).run P w=.ok (if c then .tuple #[F (s5 (ls.map (·.1)) k),.bool (decide (s5 (ls.map (·.1)) k<(ls.length:Int)))]else F (s5 (ls.map (·.1)) k)) w:=by
 have yA:(zeroValue et).run P w=.ok z w:=by
  cases hi:P.info? et with
  |none=>simp[hi]at hz
  |some inf=>
   simp[hi]at hz;simp[zeroValue,typeInfo,hi,hz]
 have hc:∀e,(Instr.checkKey e 10000 kt (.string ⟨⟨k⟩⟩)).run P w=.ok () w:=λe=>MapKept.run_checkKey (k:=.string ⟨⟨k⟩⟩) hk (by simp[MapKept.IsKey]) e 9999;have hle:=P5 (ls.map (·.1)) k;rw[List.length_map]at hle;have hg:(ls.map (·.2)++[z])[kx (ls.map (·.1)) k]?=some (F (s5 (ls.map (·.1)) k)):=by
  rw[hF,List.getElem?_map,List.getElem?_range (by omega)];rfl
 have hf:=TW ls k 0 0;rcases Nat.lt_or_ge (kx (ls.map (·.1)) k) ls.length with h|h
 ·rw[List.getElem?_append_left (by simpa using h),List.getElem?_map,List.getElem?_eq_getElem h]at hg;have hg:=Option.some.inj hg;rw[List.getElem?_eq_getElem h]at hf;have hd:decide (s5 (ls.map (·.1)) k<(ls.length:Int))=true:=decide_eq_true (by unfold s5;omega);rw[hd,←hg];simp[Instr.lookup,run_underlying hm,MapKept.run_getObj_map hb,hc,MapKept.run_findKey hk hf,Result.andThen]
 ·have he:kx (ls.map (·.1)) k=ls.length:=by omega
  rw[he,List.getElem?_append_right (by simp),List.length_map,Nat.sub_self]at hg;have hg:z=F (s5 (ls.map (·.1)) k):=Option.some.inj hg;rw[List.getElem?_eq_none (by omega)]at hf;have hd:decide (s5 (ls.map (·.1)) k<(ls.length:Int))=false:=decide_eq_false (by unfold s5;omega);rw[hd,←hg];simp[Instr.lookup,run_underlying hm,MapKept.run_getObj_map hb,hc,MapKept.run_findKey hk hf,yA,Result.andThen]
theorem a10{d:Option Tmp}{t kt et:TypeId}{x y:Operand}{c:Bool}{ty:TypeId}{pos:String}{after:Array Edge}{b:Nat}{ls:List (a7×Value)}{k:a7}{z:Value}{ix:Int}(F:Int→Value)(u:Value)(H:aj D n l a)(hS:S0 M [.we b ls] w)(Ha:ix=s5 (ls.map (·.1)) k)
  (hu:(if c then .tuple #[F ix,.bool (decide (ix<(ls.length:Int)))]else F ix)=u)
  (hx:ev l [] x=some (.map (some b)))(hy:ev l [] y=some (.string ⟨⟨k⟩⟩))(hm:P.underlying t=some (.map kt et))(hk:P.underlying kt=some .string)(hz:(P.info? et).map (·.zero)=some (some z))
  (hF:ls.map (·.2)++[z]=(List.range (ls.length+1)).map λ(i:Nat)=>F (i:Int)):
  bg P ⟨d,.lookup t x y c,ty,pos,after,none⟩ a w λv w'=>v=u∧SH M (aD [.we b ls]) w [.we b ls] w':=by
 have hb:Mp w b ls:=SH.at hS 0 rfl;subst Ha hu;refine bg.pr (w':=w) ?_ ⟨rfl,SH.step hS (Kp.refl _ _) (by simp) (by simp[aD,aB.we]) λe he=>?_⟩
 ·simp[execOp,H.ev (fw a) hx,H.ev (fw a) hy,a0Z F hb hm hk hz hF c]
 ·rw[List.mem_singleton]at he;subst he;exact hb
end
end
section
variable {D:List Deferred}
abbrev Mi:=List (a7×Int)
def lX(ms:Mi):List (a7×Value):=ms.map λx=>(x.1,.int .i64 x.2)
def s6:Mi→a7→Bool
 |[],_=>false
 |x::r,s=>s==x.1||s6 r s
def wj:Mi→a7→Int
 |[],_=>0
 |x::r,s=>cond (s==x.1) x.2 (wj r s)
theorem TY:∀(ms:Mi)(s:a7),s6 ms s=decide (kx ((lX ms).map (·.1)) s<(lX ms).length)
 |[],s=>by simp[s6,lX,kx]
 |x::r,s=>by
  have ih:=TY r s;simp only[s6,lX,List.map_cons,kx,List.length_cons]at ih⊢;cases s==x.1 with
  |true=>simp
  |false=>simp only[Bool.false_or,ih];simp
theorem a11:∀(ms:Mi)(s:a7),((lX ms).map (·.2)++[.int .i64 0])[kx ((lX ms).map (·.1)) s]?=some (.int .i64 (wj ms s))
 |[],s=>rfl
 |x::r,s=>by
  have ih:=a11 r s;simp only[wj,lX,List.map_cons,kx,List.cons_append]at ih⊢;cases s==x.1 with
  |true=>rfl
  |false=>simpa[lX]using ih
def aB.dK(b:Nat)(ms:Mi):aB:=.we b (lX ms)
def aB.mpr(b:Nat)(ms:Mi):aB where
 fp:=[]
 p:=λM w=>Mp w b (lX ms)∧¬M b
 kp:=λh k hM _=>⟨h.1.kp k (λhx=>h.2 (hM _ hx)),h.2⟩
 bW:=λh hM=>⟨h.1,λhb=>h.2 (hM _ hb)⟩
 fresh:=λh=>⟨h.1,λhb=>by
  rcases hb with hb|hb
  ·exact h.2 hb
  ·have:=h.1.lt;omega⟩
 lt:=λ_ b hb=>by cases hb
section
variable {M:Av} {X:List Nat} {w0 w:World} {L:List aB}
theorem SH.mi(h:SH M X w0 L w)(k:Nat){b:Nat}{ms:Mi}(hk:L[k]?=some (.dK b ms)):Mp w b (lX ms):=h.at k hk
theorem SH.mr(h:SH M X w0 L w)(k:Nat){b:Nat}{ms:Mi}(hk:L[k]?=some (.mpr b ms)):Mp w b (lX ms):=(h.at k hk).1
theorem tw(h:S0 F0 L w∧aD L=[]){b:Nat}{ms:Mi}(hs:Mp w b (lX ms)):S0 F0 (.mpr b ms::L) w∧aD (.mpr b ms::L)=[]:=by
 refine⟨?_,by simp only[aD,h.2];rfl⟩;have h1:SH F0 (aD (.mpr b ms::L)) w L w:=by
  have:aD (.mpr b ms::L)=aD L:=by simp[aD,aB.mpr]
  rw[this];exact h.1
 refine h1.add rfl ⟨hs,λhb=>?_⟩;rcases hb with hb|hb
 ·exact hb.elim
 ·rw[h.2]at hb;cases hb
end
section
variable {P:Program} {a:Act} {w:World} {n:Nat} {l:SF} {M:Av}
theorem a7I{d:Option Tmp}{t:TypeId}{ty:TypeId}{pos:String}{after:Array Edge}(hS:S0 M [] w):
  bg P ⟨d,.makeMap t none,ty,pos,after,none⟩ a w λu w'=>∃b:Nat,u=.map (some b)∧SH M (aD []) w [.dK b []] w':=TX hS
theorem a7J{t kt et:TypeId}{x y z:Operand}{ty:TypeId}{pos:String}{after:Array Edge}{b:Nat}{ms:Mi}{k:a7}{v:Int}(H:aj D n l a)(hS:S0 M [.dK b ms] w)
  (hx:ev l [] x=some (.map (some b)))(hy:ev l [] y=some (.string ⟨⟨k⟩⟩))(hz:ev l [] z=some (.int .i64 v))(hm:P.underlying t=some (.map kt et))(hk:P.underlying kt=some .string)(hn:s6 ms k=false):
  bg P ⟨none,.insert t x y z,ty,pos,after,none⟩ a w λ_ w'=>SH M (aD [.dK b ms]) w [.dK b (ms++[(k,v)])] w':=by
 have h1:kx ((lX ms).map (·.1)) k=(lX ms).length:=by
  rw[TY]at hn;have h2:=P5 ((lX ms).map (·.1)) k;rw[List.length_map]at h2;have:=of_decide_eq_false hn;omega
 have h2:=wg (ty:=ty) (pos:=pos) (after:=after) H hS hx hy hz hm hk h1;have h3:lX ms++[(k,.int .i64 v)]=lX (ms++[(k,v)]):=by simp[lX]
 rw[h3]at h2;exact h2
theorem a7K{t kt et:TypeId}{x y z:Operand}{ty:TypeId}{pos:String}{after:Array Edge}{b:Nat}{ms:Mi}{k:a7}{v:Int}(H:aj D n l a)(hS:S0 M [.dK b ms] w)
  (hx:ev l [] x=some (.map (some b)))(hy:ev l [] y=some (.string ⟨⟨k⟩⟩))(hz:ev l [] z=some (.int .i64 v))(hm:P.underlying t=some (.map kt et))(hk:P.underlying kt=some .string)(hn:s6 ms k=false):
  bg P ⟨none,.mapUpdate t x y z,ty,pos,after,none⟩ a w λ_ w'=>SH M (aD [.dK b ms]) w [.dK b (ms++[(k,v)])] w':=
 a7J (ty:=ty) (pos:=pos) (after:=after) H hS hx hy hz hm hk hn
theorem a13{t kt et:TypeId}{b:Nat}{ms:Mi}{k:a7}(hb:Mp w b (lX ms))(hm:P.underlying t=some (.map kt et))(hk:P.underlying kt=some .string)(hz:(P.info? et).map (·.zero)=some (some (.int .i64 0)))(c:Bool):
  (Instr.lookup t (.map (some b)) (.string ⟨⟨k⟩⟩) c).run P w=.ok (if c then .tuple #[.int .i64 (wj ms k),.bool (s6 ms k)]else .int .i64 (wj ms k)) w:=by
 have h:=a0Z (P:=P) (λi=>(((lX ms).map (·.2)++[.int .i64 0])[i.toNat]?).getD undef) (k:=k) hb hm hk hz (by
  apply List.ext_getElem
  ·simp
  ·intro i h1 h2;simp only[List.getElem_map,List.getElem_range,Int.toNat_natCast];rw[List.getElem?_eq_getElem h1];rfl) c
 have h1:s5 ((lX ms).map (·.1)) k=(kx ((lX ms).map (·.1)) k:Int):=rfl;rw[h];simp only[h1,Int.toNat_natCast,a11,Option.getD_some];rw[TY];simp only[Int.ofNat_lt]
theorem a7L{d:Option Tmp}{t kt et:TypeId}{x y:Operand}{c:Bool}{ty:TypeId}{pos:String}{after:Array Edge}{b:Nat}{ms:Mi}{k:a7}(u:Value)(hu:(if c then .tuple #[.int .i64 (wj ms k),.bool (s6 ms k)]else .int .i64 (wj ms k))=u)(H:aj D n l a)(hS:S0 M [.dK b ms] w)
  (hx:ev l [] x=some (.map (some b)))(hy:ev l [] y=some (.string ⟨⟨k⟩⟩))(hm:P.underlying t=some (.map kt et))(hk:P.underlying kt=some .string)(hz:(P.info? et).map (·.zero)=some (some (.int .i64 0))):
  bg P ⟨d,.lookup t x y c,ty,pos,after,none⟩ a w λv w'=>v=u∧SH M (aD [.dK b ms]) w [.dK b ms] w':=by
 have hb:Mp w b (lX ms):=SH.mi hS 0 rfl;subst hu;refine bg.pr (w':=w) ?_ ⟨rfl,hS⟩;simp[execOp,H.ev (fw a) hx,H.ev (fw a) hy,a13 hb hm hk hz c]
theorem a14{d:Option Tmp}{t kt et:TypeId}{x y:Operand}{c:Bool}{ty:TypeId}{pos:String}{after:Array Edge}{b:Nat}{ms:Mi}{k:a7}(u:Value)(hu:(if c then .tuple #[.int .i64 (wj ms k),.bool (s6 ms k)]else .int .i64 (wj ms k))=u)(H:aj D n l a)(hS:S0 M [.mpr b ms] w)
  (hx:ev l [] x=some (.map (some b)))(hy:ev l [] y=some (.string ⟨⟨k⟩⟩))(hm:P.underlying t=some (.map kt et))(hk:P.underlying kt=some .string)(hz:(P.info? et).map (·.zero)=some (some (.int .i64 0))):
  bg P ⟨d,.lookup t x y c,ty,pos,after,none⟩ a w λv w'=>v=u∧SH M (aD [.mpr b ms]) w [.mpr b ms] w':=by
 have hb:Mp w b (lX ms):=SH.mr hS 0 rfl;subst hu;refine bg.pr (w':=w) ?_ ⟨rfl,hS⟩;simp[execOp,H.ev (fw a) hx,H.ev (fw a) hy,a13 hb hm hk hz c]
end
end
section
variable {D:List Deferred}
def pkP(Ls:List aB)(M:Av)(w:World):Prop:=Ls.Pairwise (λ(e f:aB)=>Dj e.fp f.fp)∧∀e∈Ls,e.p M w
def aB.pk(Ls:List aB):aB where
 fp:=aD Ls
 p:=pkP Ls
 kp:=λh k hM hX=>⟨h.1,λe he=>e.kp (h.2 e he) k hM λb hb=>hX b (jT.2 ⟨e,he,hb⟩)⟩
 bW:=λh hM=>⟨h.1,λe he=>e.bW (h.2 e he) hM⟩
 fresh:=λh=>⟨h.1,λe he=>e.fresh (h.2 e he)⟩
 lt:=λh b hb=>by
  obtain⟨e,he,Km⟩:=jT.1 hb;exact e.lt (h.2 e he) b Km
section
variable {M:Av} {X:List Nat} {w0 w:World} {L Ls:List aB}
theorem Hr:aD (aB.pk Ls::L)=aD (Ls++L):=by rw[Ec];rfl
theorem SH.pack(h:SH M X w0 (Ls++L) w):SH M X w0 (.pk Ls::L) w:=by
 have hn:=h.nd;rw[List.pairwise_append]at hn;have ha:∀b,ep M (.pk Ls::L) b→ep M (Ls++L) b:=λb hb=>by
  rcases hb with hb|hb
  ·exact .inl hb
  ·rw[Hr]at hb;exact .inr hb
 refine⟨h.kp,?_,λb hb=>h.lo b (by rw[←Hr];exact hb),λb hb=>h.nm b (by rw[←Hr];exact hb),h.mx,λe he=>?_⟩
 ·rw[List.pairwise_cons];refine⟨λf hf y hy A0=>?_,hn.2.1⟩;obtain⟨e,he,hye⟩:=jT.1 (show y∈aD Ls from hy);exact hn.2.2 e he f hf y hye A0
 ·rcases List.mem_cons.1 he with rfl|he
  ·exact⟨hn.1,λe he=>e.bW (h.ps e (List.mem_append_left _ he)) ha⟩
  ·exact e.bW (h.ps e (List.mem_append_right _ he)) ha
theorem SH.unpack(h:SH M X w0 (.pk Ls::L) w):SH M X w0 (Ls++L) w:=by
 have hn:=h.nd;rw[List.pairwise_cons]at hn;have hp:(aB.pk Ls).p (ep M (.pk Ls::L)) w:=h.ps _ List.mem_cons_self;have ha:∀b,ep M (Ls++L) b→ep M (.pk Ls::L) b:=λb hb=>by
  rcases hb with hb|hb
  ·exact .inl hb
  ·rw[←Hr]at hb;exact .inr hb
 refine⟨h.kp,?_,λb hb=>h.lo b (by rw[Hr];exact hb),λb hb=>h.nm b (by rw[Hr];exact hb),h.mx,λe he=>?_⟩
 ·rw[List.pairwise_append];exact⟨hp.1,hn.2,λe he f hf y hy A0=>hn.1 f hf y (jT.2 ⟨e,he,hy⟩) A0⟩
 ·rcases List.mem_append.1 he with he|he
  ·exact e.bW (hp.2 e he) ha
  ·exact e.bW (h.ps e (List.mem_cons_of_mem _ he)) ha
end
abbrev Hd(α:Type):=List α×Gh
def lK(α:Type):Ty (Hd α):=.flat 1 (λp=>[.slice p.2.a p.1.length p.2.c]) (λ_=>rfl) (λ_=>rfl)
def lL{α:Type}(E:TypeId)(T:Ty α)(qs:List (Hd α)):List aB:=qs.map λq=>.own E T q.1 q.2
def aB.p9{α:Type}(E:TypeId)(T:Ty α)(qs:List (Hd α)):aB:=.pk (lL E T qs)
section
variable {α:Type} {E E2:TypeId} {T:Ty α} {M:Av} {X:List Nat} {w0 w:World} {L:List aB} {qs:List (Hd α)}
theorem SH.a7M(h:SH M X w0 L w):SH M X w0 (.p9 E T [(([]:List α),.nil)]::L) w:=SH.pack (Ls:=lL E T [([],.nil)]) (h.E7 E T)
theorem SH.a7N(h:SH M X w0 (.p9 E T qs::L) w):SH M X w0 (.p9 E T (qs++[([],.nil)])::L) w:=by
 have h1:=(SH.unpack h).E7 E T;refine SH.pack (h1.perm ?_);show(aB.own E T ([]:List α) .nil::(lL E T qs++L)).Perm (lL E T (qs++[([],.nil)])++L);have e:lL E T (qs++[(([]:List α),Gh.nil)])++L=lL E T qs++aB.own E T ([]:List α) .nil::L:=by simp[lL]
 rw[e];exact List.perm_middle.symm
theorem a15{β:Type}:∀(l:List β)(k:Nat)(_:k<l.length),(l[k]::l.eraseIdx k).Perm l
 |_::_,0,_=>List.Perm.refl _
 |x::r,k+1,hk=>(List.Perm.swap _ _ _).trans ((a15 r k (by simpa using hk)).cons x)
theorem a16{β:Type}(q:β):∀(l:List β)(k:Nat)(_:k<l.length),(q::l.eraseIdx k).Perm (l.set k q)
 |_::_,0,_=>List.Perm.refl _
 |x::r,k+1,h=>(List.Perm.swap _ _ _).trans ((a16 q r k (by simpa using h)).cons x)
theorem a17{k:Nat}(hk:k<qs.length):(aB.own E T qs[k].1 qs[k].2::lL E T (qs.eraseIdx k)).Perm (lL E T qs):=
 (a15 qs k hk).map λq:Hd α=>aB.own E T q.1 q.2
theorem a18{k:Nat}(hk:k<qs.length)(q:Hd α):(aB.own E T q.1 q.2::lL E T (qs.eraseIdx k)).Perm (lL E T (qs.set k q)):=
 (a16 q qs k hk).map λq:Hd α=>aB.own E T q.1 q.2
theorem TZ{k:Int}(hk:0≤k∧k<ln qs):gi qs k=qs[k.toNat]'(by unfold ln at hk;omega):=by
 have h:k.toNat<qs.length:=by unfold ln at hk;omega
 simp[gi,List.getD_eq_getElem?_getD,List.getElem?_eq_getElem h]
theorem a7O:V.ln (qs.map (·.1))=V.ln qs:=by simp[V.ln]
theorem a7P{k:Int}(hk:0≤k∧k<V.ln qs):gi (qs.map (·.1)) k=(gi qs k).1:=by
 rw[TZ hk];have h:k.toNat<qs.length:=by unfold V.ln at hk;omega
 simp[gi,List.getD_eq_getElem?_getD,List.getElem?_eq_getElem h]
theorem a19{k:Int}{p:Hd α}:cj (qs.map (·.1)) k p.1=(cj qs k p).map (·.1):=by simp[cj,List.map_set]
theorem a1a{β:Type}{l:List β}{k:Int}{p q:β}:cj (cj l k p) k q=cj l k q:=by simp[cj]
theorem a7Q{β:Type}[Inhabited β]{l:List β}{k:Int}{p:β}(hk:0≤k∧k<V.ln l):gi (cj l k p) k=p:=by
 have h:k.toNat<l.length:=by unfold V.ln at hk;omega
 simp[gi,cj,List.getD_eq_getElem?_getD,h]
theorem a7R{β:Type}{l:List β}{x y:β}:cj (l++[x]) (V.ln l) y=l++[y]:=by simp[cj,V.ln]
theorem a7S{k:Int}{p p':Hd α}(h:Value.slice p'.2.a p'.1.length p'.2.c=Value.slice p.2.a p.1.length p.2.c):(cj qs k p).map (λp:Hd α=>Value.slice p.2.a p.1.length p.2.c)=(cj (cj qs k p) k p').map λp:Hd α=>Value.slice p.2.a p.1.length p.2.c:=by
 rw[a1a];simp only[cj,List.map_set,h]
theorem a1b:∀(qs:List (Hd α))(s:Nat→Nat→Gh)(t:Nat→Nat→Gh)(i:Nat),(∀j (h:j<qs.length),t (i+j) 0=qs[j].2)→
  ((dt (qs.map (·.1)) t i).map (gn (Ty.sl T))).flatten=((dt qs s i).map (gn (lK α))).flatten
 |[],_,_,_,_=>rfl
 |q::r,s,t,i,h=>by
  have h0:=h 0 (by simp);have ih:=a1b r s t (i+1) λj hj=>by
   have:=h (j+1) (by simpa using hj);rw[show i+1+j=i+(j+1) by omega];simpa using this
  simp only[List.map_cons,dt,List.flatten_cons,ih];congr 1;show[Value.slice (t i 0).a q.1.length (t i 0).c]=[Value.slice q.2.a q.1.length q.2.c];rw[show t i 0=q.2 from by simpa using h0]
theorem SH.a7T{k:Int}(hk:0≤k∧k<V.ln qs)(h:SH M X w0 (.p9 E T qs::L) w):SH M X w0 (.own E T (gi qs k).1 (gi qs k).2::.p9 E T (qs.eraseIdx k.toNat)::L) w:=by
 have Hs:k.toNat<qs.length:=by unfold V.ln at hk;omega
 rw[TZ hk];have h1:SH M X w0 (lL E T (qs.eraseIdx k.toNat)++.own E T qs[k.toNat].1 qs[k.toNat].2::L) w:=(SH.unpack h).perm (((a17 Hs).symm.append_right _).trans List.perm_middle.symm);exact(SH.pack (Ls:=lL E T (qs.eraseIdx k.toNat)) h1).perm (List.Perm.swap _ _ _)
theorem SH.a7U{k:Int}(hk:0≤k∧k<V.ln qs){q:List α}{g:Gh}(h:SH M X w0 (.own E T q g::.p9 E T (qs.eraseIdx k.toNat)::L) w):SH M X w0 (.p9 E T (cj qs k (q,g))::L) w:=by
 have Hs:k.toNat<qs.length:=by unfold V.ln at hk;omega
 have h1:SH M X w0 (lL E T (qs.eraseIdx k.toNat)++.own E T q g::L) w:=SH.unpack (h.perm (List.Perm.swap _ _ _));exact SH.pack (Ls:=lL E T (cj qs k (q,g))) (h1.perm (List.perm_middle.trans ((a18 Hs (q,g)).append_right _)))
theorem SH.a7V{rs:List (Hd α)}{g:Gh}(he:qs.map (λp=>Value.slice p.2.a p.1.length p.2.c)=rs.map λp=>Value.slice p.2.a p.1.length p.2.c)(h:SH M X w0 (.own E (lK α) qs g::L) w):SH M X w0 (.own E (lK α) rs g::L) w:=by
 have hz:∀(l:List (Hd α))(s:Nat→Nat→Gh)(i:Nat),((dt l s i).map (gn (lK α))).flatten=l.map λp=>Value.slice p.2.a p.1.length p.2.c:=by
  intro l
  induction l with
  |nil=>intros;rfl
  |cons x r ih=>intro s i;simp only[dt,List.map_cons,List.flatten_cons,ih];rfl
 have hl:qs.length=rs.length:=by simpa using congrArg List.length he
 have hn:=h.nd;rw[List.pairwise_cons]at hn;refine⟨h.kp,List.pairwise_cons.2 ⟨λf hf=>hn.1 f hf,hn.2⟩,λb hb=>h.lo b hb,λb hb=>h.nm b hb,h.mx,λe Hf=>?_⟩;rcases List.mem_cons.1 Hf with rfl|Hf
 ·have ho:l8 E (lK α) (ep M (.own E (lK α) qs g::L)) w qs g:=h.ow 0 rfl;refine⟨⟨?_,ho.ow.lt,by have:=ho.ow.ln;rw[gJ]at this⊢;rw[←hl];exact this⟩,λi hi=>trivial⟩;have hr:=ho.ow.row;rw[gJ,hz]at hr⊢;rw[←hl,←he];exact hr
 ·exact h.ps e (List.mem_cons_of_mem _ Hf)
theorem SH.a7W{g:Gh}(h:SH M X w0 (.own E (lK α) qs g::.p9 E2 T qs::L) w):SH M X w0 (.own E (Ty.sl T) (qs.map (·.1)) (.mk g.a g.c λi _=>(qs.getD i ([],.nil)).2)::L) w:=by
 have h1:SH M X w0 (.own E (lK α) qs g::(lL E2 T qs++L)) w:=by
  have h2:=SH.unpack (h.perm (List.Perm.swap _ _ _));exact h2.perm List.perm_middle
 have hn:=h1.nd;rw[List.pairwise_cons,List.pairwise_append]at hn;obtain⟨Ks,qn,qo,hn3⟩:=hn;have ho:l8 E (lK α) (ep M (.own E (lK α) qs g::(lL E2 T qs++L))) w qs g:=h1.ow 0 rfl;have vM:∀{b},b∈aD (aB.own E (Ty.sl T) (qs.map (·.1)) (.mk g.a g.c λi _=>(qs.getD i ([],.nil)).2)::L)→b∈aD (.own E (lK α) qs g::(lL E2 T qs++L)):=λ{b} hb=>by
  simp only[aD,List.mem_append]at hb⊢;rcases hb with hb|hb
  ·exact .inl hb
  ·right;rw[Ec];exact List.mem_append_right _ hb
 have ha:∀b,ep M (.own E (Ty.sl T) (qs.map (·.1)) (.mk g.a g.c λi _=>(qs.getD i ([],.nil)).2)::L) b→ep M (.own E (lK α) qs g::(lL E2 T qs++L)) b:=λb hb=>by
  rcases hb with hb|hb
  ·exact .inl hb
  ·exact .inr (vM hb)
 refine⟨h1.kp,?_,λb hb=>h1.lo b (vM hb),λb hb=>h1.nm b (vM hb),h1.mx,λe he=>?_⟩
 ·rw[List.pairwise_cons];exact⟨λf hf=>Ks f (List.mem_append_right _ hf),qo⟩
 ·rcases List.mem_cons.1 he with rfl|he
  ·have hl:(dt (qs.map (·.1)) (λi (_:Nat)=>(qs.getD i (([]:List α),Gh.nil)).2) 0).length=(dt qs g.s 0).length:=by rw[gJ,gJ,List.length_map]
   have hf:=a1b (T:=T) qs g.s (λi (_:Nat)=>(qs.getD i (([]:List α),Gh.nil)).2) 0 λj hj=>by
    simp[List.getD_eq_getElem?_getD,List.getElem?_eq_getElem hj]
   refine⟨⟨?_,ho.ow.lt,by rw[show(Gh.mk g.a g.c λi (_:Nat)=>(qs.getD i (([]:List α),Gh.nil)).2).s=λi (_:Nat)=>(qs.getD i (([]:List α),Gh.nil)).2 from rfl,hl];exact ho.ow.ln⟩,λi hi=>?_⟩
   ·have hr:=ho.ow.row;show w.ownsRow 0 E 1 (.slice g.a (dt (qs.map (·.1)) (λi (_:Nat)=>(qs.getD i (([]:List α),Gh.nil)).2) 0).length g.c) (dt (qs.map (·.1)) (λi (_:Nat)=>(qs.getD i (([]:List α),Gh.nil)).2) 0).length ((dt (qs.map (·.1)) (λi (_:Nat)=>(qs.getD i (([]:List α),Gh.nil)).2) 0).map (gn (Ty.sl T))).flatten;rw[hl,hf];exact hr
   ·rw[List.length_map]at hi;have hm:aB.own E2 T qs[i].1 qs[i].2∈lL E2 T qs:=List.mem_map.2 ⟨qs[i],List.getElem_mem hi,rfl⟩;have hq:l8 E2 T (ep M (.own E (lK α) qs g::(lL E2 T qs++L))) w qs[i].1 qs[i].2:=h1.ps _ (List.mem_cons_of_mem _ (List.mem_append_left _ hm));have:=hq.sl (M':=ep M (.own E (Ty.sl T) (qs.map (·.1)) (.mk g.a g.c λi _=>(qs.getD i ([],.nil)).2)::L)) (λb hb hx=>?_) ha
    ·show aM T _ w (qs.map (·.1))[i] (qs.getD i ([],.nil)).2;rw[List.getElem_map,List.getD_eq_getElem?_getD,List.getElem?_eq_getElem hi];exact this
    ·rcases hx with hx|hx
     ·exact h1.nm b (jT.2 ⟨_,List.mem_cons_of_mem _ (List.mem_append_left _ hm),hb⟩) hx
     ·simp only[aD,List.mem_append]at hx;rcases hx with hx|hx
      ·exact Ks _ (List.mem_append_left _ hm) b hx hb
      ·obtain⟨f,hf2,Ku⟩:=jT.1 hx;exact hn3 _ hm f hf2 b hb Ku
  ·exact e.bW (h1.ps e (List.mem_cons_of_mem _ (List.mem_append_right _ he))) ha
end
section
variable {P:Program} {a:Act} {w:World} {n:Nat} {l:SF} {M:Av}
theorem a1c{α:Type}{T:Ty α}{d:Nat}{s x:Operand}{t ty e e2:TypeId}{pos:String}{after:Array Edge}{zv:Value}{qs:List (Hd α)}{g2:Gh}{n1 n2 c1 c2:Nat}{a1 a2:Option Addr}{l2:List α}{k:Int}(hk:0≤k∧k<ln qs)(q:List α)(hq:(gi qs k).1++l2=q)(H:aj D n l a)(hS:S0 M [.p9 e T qs,.own e2 T l2 g2] w)
  (hs:ev l [] s=some (.slice a1 n1 c1))(hx:ev l [] x=some (.slice a2 n2 c2))(vX:(gi qs k).2.a=a1)(qu:(gi qs k).2.c=c1)(E9:g2.a=a2)(qn:(gi qs k).1.length=n1)(qo:l2.length=n2)
  (hu:P.underlying t=some (.slice e))(hi:(P.info? e).map (λi=>(i.size,Nat.ble i.bytes 1024,i.zero))=some (T.z,true,some zv))(qp:zv.cells.size=T.z)(hz:Nat.blt 0 T.z=true)
  (hl:V.ln (gi qs k).1+V.ln l2≤137438953472):
  bg P ⟨some d,.call ⟨.builtin .append,#[s,x],#[t,t]⟩,ty,pos,after,none⟩ a w λv w'=>∃g:Gh,v=.slice g.a q.length g.c∧SH M (aD [.p9 e T qs,.own e2 T l2 g2]) w [.p9 e T (cj qs k (q,g)),.own e2 T l2 g2] w':=by
 have Hs:k.toNat<qs.length:=by unfold ln at hk;omega
 rw[TZ hk]at hq vX qu qn hl;have h1:SH M (aD [.p9 e T qs,.own e2 T l2 g2]) w ([.own e T qs[k.toNat].1 qs[k.toNat].2,.own e2 T l2 g2]++lL e T (qs.eraseIdx k.toNat)) w:=by
  refine(SH.unpack (Ls:=lL e T qs) (L:=[.own e2 T l2 g2]) hS).perm ?_;refine((a17 Hs).symm.append_right _).trans ?_;exact(List.perm_append_comm (l₁:=lL e T (qs.eraseIdx k.toNat)) (l₂:=[aB.own e2 T l2 g2])).cons _
 refine(Ea (P:=P) (T:=T) (d:=d) (ty:=ty) (pos:=pos) (after:=after) (zv:=zv) (g1:=qs[k.toNat].2) (g2:=g2) (l1:=qs[k.toNat].1) (l2:=l2) q hq H (SH.a0C h1) hs hx vX qu E9 qn qo hu hi qp hz hl).mono ?_;rintro v w' ⟨g,rfl,Aa⟩;refine⟨g,rfl,?_⟩;have h2:=SH.a0D h1 Aa;refine SH.pack (Ls:=lL e T (cj qs k (q,g))) (L:=[.own e2 T l2 g2]) (h2.perm ?_);refine List.Perm.trans ?_ ((a18 Hs (q,g)).append_right [aB.own e2 T l2 g2]);exact(List.perm_append_comm (l₁:=[aB.own e2 T l2 g2]) (l₂:=lL e T (qs.eraseIdx k.toNat))).cons _
end
end
section
variable {D:List Deferred}
section
variable {P:Program} {a:Act} {w:World} {n:Nat} {l:SF} {M:Av}
theorem a1d{d:Nat}{s:Operand}{t e ty:TypeId}{pos:String}{after:Array Edge}{a1:Option Addr}{n1 c1:Nat}(H:aj D n l a)(hS:S0 M [] w)(hs:ev l [] s=some (.slice a1 n1 c1))(hu:P.underlying t=some (.slice e)):
  bg P ⟨some d,.call ⟨.builtin .cap,#[s],#[t]⟩,ty,pos,after,none⟩ a w λv w'=>v=.int .i64 (c1:Int)∧SH M (aD []) w [] w':=by
 refine bg.pr (v:=.int .i64 (c1:Int)) (w':=w) ?_ ⟨rfl,SH.step hS (Kp.refl _ _) (by simp) (by simp[aD]) (by intro e he;cases he)⟩;simp[execOp,resolve,invoke,builtin,Builtin.cap_,H.ev (fw a) hs,run_underlying hu,goInt]
theorem a7X{α:Type}{T:Ty α}{d:Nat}{s x:Operand}{t tn ty e:TypeId}{pos:String}{after:Array Edge}{zv:Value}{k:Int}{kn:IntKind}(H:aj D n l a)(hS:S0 M [] w)
  (hs:ev l [] s=some (.slice none 0 0))(hx:ev l [] x=some (.int .i64 k))(hu:P.underlying t=some (.slice e))(hn:P.underlying tn=some (.int kn))(hi:(P.info? e).map (λi=>(i.size,Nat.ble i.bytes 128,i.zero))=some (T.z,true,some zv))(qp:zv.cells.size=T.z)(hz:Nat.blt 0 T.z=true)
  (hk:0<k∧k≤137438953472):
  bg P ⟨some d,.call ⟨.builtin .append,#[s,x],#[t,tn]⟩,ty,pos,after,none⟩ a w λv w'=>∃g:Gh,v=.slice g.a k.toNat g.c∧SH M (aD []) w [.own e T ([]:List α) g] w':=by
 have BC:0<T.z:=by simpa[Nat.blt,Nat.lt_iff_add_one_le]using hz
 obtain⟨j,rfl⟩:∃j:Nat,k=j:=⟨k.toNat,by omega⟩;have hj:0<j∧j≤137438953472:=by omega
 cases n7:P.info? e with
 |none=>simp[n7]at hi
 |some inf=>
  simp only[n7,Option.map_some,Option.some.injEq,Prod.mk.injEq]at hi;obtain⟨h1,h2,h3⟩:=hi;have h2:inf.bytes≤128:=by simpa using h2
  have hby:j*inf.bytes≤140737488355328:=Nat.le_trans (Nat.mul_le_mul hj.2 h2) (by decide);have hr:=Lib.run_append_nil_zeros (P:=P) w t tn ty e inf zv .i64 kn hu hn n7 h3 j hj.1 (by omega) (by omega) (by omega);generalize hc:Builtin.zeroCells zv.cells j++Builtin.zeroCells zv.cells (grownCap w j 0 e-j)=cs at hr;have hge:=grownCap_ge w j 0 e;have lH:cs.size=grownCap w j 0 e*T.z:=by
   rw[←hc,Array.size_append,size_zeroCells,size_zeroCells,qp,←Nat.add_mul];congr 1;omega
  have hN:=DZ w.drew cs.toList e;have hb:Below w.heap.size w w.drew:=⟨rfl,rfl,rfl,Nat.le_refl _,λ_ _=>rfl⟩;have Td:Kp [] w (w.drew.alloc (.cells cs e)):=by
   refine⟨(hN.1.os).trans hb.os,(hN.1.tape).trans hb.tape,(hN.1.output).trans hb.output,?_,λq hq _=>(hN.1.block q hq (by simp)).trans (hb.block q hq)⟩;exact Nat.le_trans hb.size hN.1.size
  refine bg.pr (v:=.slice (some ⟨w.heap.size,0,none⟩) j (grownCap w j 0 e)) (w':=w.drew.alloc (.cells cs e)) ?_ ⟨.mk (some ⟨w.heap.size,0,none⟩) (grownCap w j 0 e) (λ_ _=>.nil),rfl,SH.step hS Td (by simp) (by simp[aD,aB.own,Gh.a,gI]) ?_⟩
  ·simp[execOp,resolve,invoke,builtin,H.ev (fw a) hs,H.ev (fw a) hx,hr]
  ·intro f hf;rw[List.mem_singleton]at hf;subst hf;refine⟨⟨⟨by simp[dt],.inr ⟨w.heap.size,grownCap w j 0 e,cs,rfl,Nat.zero_le _,?_,Nat.zero_le _,grownCap_le_maxLen w j 0 e (by unfold maxLen;omega),lH,by simp[dt]⟩⟩,?_,by simp[dt]⟩,λi hi=>by simp at hi⟩
   ·show(w.heap.push _)[w.heap.size]?=_;simp
   ·intro b hb;simp only[Gh.a,gI,List.mem_singleton]at hb;subst hb;show w.heap.size<(w.heap.push _).size;simp
theorem a1e{d:Nat}{t E ty:TypeId}{x hi:Operand}{pos:String}{after:Array Edge}{n0 c0 z:Nat}{a0:Option Addr}{k:IntKind}{L:List aB}(H:aj D n l a)(hS:S0 M L w)
  (hx:ev l [] x=some (.slice a0 n0 c0))(hh:ev l [] hi=some (.int k 0))(hu:P.underlying t=some (.slice E))(hz:(P.info? E).map (·.size)=some z):
  bg P ⟨some d,.slice t x none (some hi) none,ty,pos,after,none⟩ a w λv w'=>v=.slice a0 0 c0∧SH M (aD L) w L w':=by
 have lH:(sizeOf E).run P w=.ok z w:=ot hz;have hb:(Instr.sliceBounds true n0 c0 none (some (.int k 0)) none).run P w=.ok (0,0,c0) w:=by
  simp[Instr.sliceBounds,Instr.sliceBound,asIntOf]
 have hm:(if c0=0 then a0 else a0.map (·.add 0))=a0:=by
  cases a0 with
  |none=>simp
  |some b=>simp only[Option.map_some];exact ite_self _
 refine bg.pr (v:=.slice a0 0 c0) (w':=w) ?_ ⟨rfl,hS⟩;simp[execOp,H.ev (fw a) hx,H.ev (fw a) hh,Instr.sliceAt,run_underlying hu,Instr.slice,hb,lH,hm]
end
section
variable {P:Program} {ops:Array Oper} {Q:Exit→Act→World→Prop} {fuel i j:Nat} {o o2:Oper} {listed:Array Bool} {a:Act} {w:World}
theorem U0{K:Value→World→Prop}(ho:ops[i]?=some o)(hg:o.guard=none)(hs:bg P o a w K)(hK:∀v w',K v w'→wpAny P .any ops Q fuel (listed.setIfInBounds i true) (a.put o.dst v) w'):wpOp P ops Q i (wpAny P .any ops Q fuel (listed.setIfInBounds i true)) a w:=by
 unfold wpOp;rw[ho];have hw:Region.wanted o (yielded ops a.tmps)=true:=by simp[Region.wanted,hg]
 simp only[hw,if_true];exact .inl (hs _ _ hK)
theorem P6{K:Value→World→Prop}(hr:Region.ready .any ops listed=[i])(ho:ops[i]?=some o)(hg:o.guard=none)(hs:bg P o a w K)(hK:∀v w',K v w'→wpAny P .any ops Q fuel (listed.setIfInBounds i true) (a.put o.dst v) w'):wpAny P .any ops Q (fuel+1) listed a w:=by
 refine⟨λh=>(by rw[hr]at h;cases h),λk hk=>?_⟩;rw[hr,List.mem_singleton]at hk;subst hk;exact U0 ho hg hs hK
theorem a7Y{K K2:Value→World→Prop}(hr:Region.ready .any ops listed=[i,j])(ho:ops[i]?=some o)(hg:o.guard=none)(P7:ops[j]?=some o2)(hg2:o2.guard=none)(hs:bg P o a w K)(GQ:bg P o2 a w K2)
  (hK:∀v w',K v w'→wpAny P .any ops Q fuel (listed.setIfInBounds i true) (a.put o.dst v) w')(hK2:∀v w',K2 v w'→wpAny P .any ops Q fuel (listed.setIfInBounds j true) (a.put o2.dst v) w'):wpAny P .any ops Q (fuel+1) listed a w:=by
 refine⟨λh=>(by rw[hr]at h;cases h),λk hk=>?_⟩;rw[hr]at hk;rcases List.mem_cons.1 hk with rfl|hk
 ·exact U0 ho hg hs hK
 ·rw[List.mem_singleton]at hk;subst hk;exact U0 P7 hg2 GQ hK2
end
theorem a7Z{n:Nat}{M:Av}{X:List Nat}{w0:World}{l:SF}{N R:eQ}{ES:List (Nat×eQ)}{P:Program}{id d e:Nat}{E y0 y1 y2 y3:TypeId}{p0 p1 p2 p3:String}{a0 a1 a2 a3:Array Edge}{z:Code}{e1 e2 e3:aB}(ks:List Nat)(vs:List Value)
  (h:∀c:Bool,T D n M X w0 ((e,[],.bool c)::fz ks vs) [e1,e2,e3] λa w=>z.wp P (Qs N ES R) a w)
  (hk:∀u v,aK (oX (oX l d [] u) e [] v) (e::ks)=some ((e,[],v)::fz ks vs):=by exact λ_ _=>rfl)
  (hd:Nat.blt d n=true:=by rfl)(he:Nat.blt e n=true:=by rfl)(hx:∀u,ev (oX l d [] u) [] (.tmp d)=some u:=by exact λ_=>rfl)(ht:∀u c,ev (oX l d [] u) [] (.const (.bool c))=some (.bool c):=by exact λ_ _=>rfl)
  (hz:(P.info? E).map (·.zero)=some (some (.bool false)):=by kernel_rfl)(lH:(P.info? E).map (·.size)=some 1:=by kernel_rfl)(hm:P.follows .mixedOrders=true:=by kernel_rfl)
  (hl:∀b c,Bz P (oX l d [] (.pointer (some ⟨b,0,none⟩))) [] (.load E (.tmp d)) [.bool c]=some ⟨.bool c,[],some (V.c9 ⟨b,0,none⟩ (.bool c))⟩:=by intros;kernel_rfl)
  (r0:Region.ready .any #[⟨some d,.alloc E,y0,p0,a0,none⟩,⟨none,.store E (.tmp d) (.const (.bool true)),y1,p1,a1,none⟩,⟨none,.store E (.tmp d) (.const (.bool false)),y2,p2,a2,none⟩,⟨some e,.load E (.tmp d),y3,p3,a3,none⟩] #[false,false,false,false]=[0]:=by kernel_rfl)
  (r1:Region.ready .any #[⟨some d,.alloc E,y0,p0,a0,none⟩,⟨none,.store E (.tmp d) (.const (.bool true)),y1,p1,a1,none⟩,⟨none,.store E (.tmp d) (.const (.bool false)),y2,p2,a2,none⟩,⟨some e,.load E (.tmp d),y3,p3,a3,none⟩] #[true,false,false,false]=[1,2]:=by kernel_rfl)
  (r2:Region.ready .any #[⟨some d,.alloc E,y0,p0,a0,none⟩,⟨none,.store E (.tmp d) (.const (.bool true)),y1,p1,a1,none⟩,⟨none,.store E (.tmp d) (.const (.bool false)),y2,p2,a2,none⟩,⟨some e,.load E (.tmp d),y3,p3,a3,none⟩] #[true,true,false,false]=[2]:=by kernel_rfl)
  (r3:Region.ready .any #[⟨some d,.alloc E,y0,p0,a0,none⟩,⟨none,.store E (.tmp d) (.const (.bool true)),y1,p1,a1,none⟩,⟨none,.store E (.tmp d) (.const (.bool false)),y2,p2,a2,none⟩,⟨some e,.load E (.tmp d),y3,p3,a3,none⟩] #[true,false,true,false]=[1]:=by kernel_rfl)
  (r4:Region.ready .any #[⟨some d,.alloc E,y0,p0,a0,none⟩,⟨none,.store E (.tmp d) (.const (.bool true)),y1,p1,a1,none⟩,⟨none,.store E (.tmp d) (.const (.bool false)),y2,p2,a2,none⟩,⟨some e,.load E (.tmp d),y3,p3,a3,none⟩] #[true,true,true,false]=[3]:=by kernel_rfl)
  (r5:Region.ready .any #[⟨some d,.alloc E,y0,p0,a0,none⟩,⟨none,.store E (.tmp d) (.const (.bool true)),y1,p1,a1,none⟩,⟨none,.store E (.tmp d) (.const (.bool false)),y2,p2,a2,none⟩,⟨some e,.load E (.tmp d),y3,p3,a3,none⟩] #[true,true,true,true]=[]:=by kernel_rfl):
  T D n M X w0 l [e1,e2,e3] λa w=>(Code.seq (.region id #[⟨some d,.alloc E,y0,p0,a0,none⟩,⟨none,.store E (.tmp d) (.const (.bool true)),y1,p1,a1,none⟩,⟨none,.store E (.tmp d) (.const (.bool false)),y2,p2,a2,none⟩,⟨some e,.load E (.tmp d),y3,p3,a3,none⟩] true) z).wp P (Qs N ES R) a w:=by
 intro a w H hS;refine BA (wp_region_any hm ?_);replace hS:=hS.below (⟨rfl,rfl,rfl,Nat.le_refl _,λ_ _=>rfl⟩:Below w.heap.size w {w with drawn:=w.drawn+1});generalize{w with drawn:=w.drawn+1}=w2 at hS⊢;refine P6 (fuel:=3) r0 rfl rfl (vR [.bool false] (z:=.bool false) (hS.hand [] [0,1,2] rfl rfl) hz rfl) ?_;rintro _ w3 ⟨b,rfl,hq⟩;have P8:=hS.join [] [0,1,2] rfl rfl hq;have H1:=aj.set (H:=H) (v:=.pointer (some ⟨b,0,none⟩)) hd;clear hq hS H;have fin:∀(c:Bool)(a':Act)(w4:World),aj D n (oX l d [] (.pointer (some ⟨b,0,none⟩))) a'→SH M X w0 ([.my b [.bool c]]++eE [e1,e2,e3] [0,1,2]) w4→wpAny P .any #[⟨some d,.alloc E,y0,p0,a0,none⟩,⟨none,.store E (.tmp d) (.const (.bool true)),y1,p1,a1,none⟩,⟨none,.store E (.tmp d) (.const (.bool false)),y2,p2,a2,none⟩,⟨some e,.load E (.tmp d),y3,p3,a3,none⟩] (Qs (λa w=>z.wp P (Qs N ES R) a w) ES R) 1 #[true,true,true,false] a' w4:=by
  intro c a' w4 H hS;refine P6 (fuel:=0) r4 rfl rfl (pu [.bool c] (.bool c) (some (V.c9 ⟨b,0,none⟩ (.bool c))) [] H rfl (hl b c) (λq e=>by cases e;exact(hS.bk 0 rfl).c9 rfl)) ?_;rintro _ w5 ⟨rfl,hq⟩;exact⟨r5,h c _ _ ((aj.set (H:=H) he).aK (hk _ _)) ((hS.below hq.below).aV [1,2,3] rfl)⟩
 refine a7Y (fuel:=2) (i:=1) (j:=2) r1 rfl rfl rfl rfl (r8 [.bool true] H1 (P8.hand [0] [1,2,3] rfl rfl) (hx _) (ht _ _) lH rfl rfl rfl) (r8 [.bool false] H1 (P8.hand [0] [1,2,3] rfl rfl) (hx _) (ht _ _) lH rfl rfl rfl) ?_ ?_
 ·rintro _ w4 hq;have xu:=P8.join [0] [1,2,3] rfl rfl hq;refine P6 (fuel:=1) r2 rfl rfl (r8 [.bool false] H1 (xu.hand [0] [1,2,3] rfl rfl) (hx _) (ht _ _) lH rfl rfl rfl) ?_;rintro _ w5 Aa;exact fin false _ _ H1 (xu.join [0] [1,2,3] rfl rfl Aa)
 ·rintro _ w4 hq;have xu:=P8.join [0] [1,2,3] rfl rfl hq;refine P6 (fuel:=1) r3 rfl rfl (r8 [.bool true] H1 (xu.hand [0] [1,2,3] rfl rfl) (hx _) (ht _ _) lH rfl rfl rfl) ?_;rintro _ w5 Aa;exact fin true _ _ H1 (xu.join [0] [1,2,3] rfl rfl Aa)
end
theorem a1f{w:World}{b:Nat}{o:Obj}(h:w.heap[b]?=some o):b<w.heap.size:=by
 rcases Nat.lt_or_ge b w.heap.size with h'|h'
 ·exact h'
 ·rw[Array.getElem?_eq_none h']at h;cases h
theorem SH.gone{M:Av}{L:List aB}{w w':World}(h:S0 M L w)(k:Kp (aD L) w w'):SH M (aD L) w [] w':=SH.step h k (by simp) (by simp[aD]) (by simp)
def aB.iD(g:Nat)(cs:List Value):aB where
 fp:=[]
 p:=λM w=>(∃T fr,w.heap[g]?=some (.cells ⟨cs⟩ T fr))∧¬M g
 kp:=λh k hM _=>⟨by obtain⟨⟨T,fr,h1⟩,h2⟩:=h;exact⟨T,fr,(k.block _ (a1f h1) (λhx=>h2 (hM _ hx))).trans h1⟩,h.2⟩
 bW:=λh hM=>⟨h.1,λhb=>h.2 (hM _ hb)⟩
 fresh:=λh=>⟨h.1,λhb=>by
  obtain⟨⟨T,fr,h1⟩,h2⟩:=h;rcases hb with hb|hb
  ·exact h2 hb
  ·have:=a1f h1;omega⟩
 lt:=λ_ b hb=>by cases hb
def n9:Nat→Nat→a7
 |0,_=>[]
 |k+1,u=>cond (Nat.blt u 10) [UInt8.ofNat (48+u)] (n9 k (u/10)++[UInt8.ofNat (48+u%10)])
def KF(n:Int):a7:=cond (decide (n<0)) (45::n9 20 n.natAbs) (n9 20 n.toNat)
theorem a81{u:Nat}(h:¬u<10):Nat.blt u 10=false:=by
 cases hb:Nat.blt u 10 with
 |false=>rfl
 |true=>exact absurd (by simpa[Nat.blt,Nat.lt_iff_add_one_le]using hb) h
theorem U1:∀(k u:Nat),u<10^(k+1)→n9 (k+1) u=Lib.decDigits u
 |0,u,h=>by
  have h:u<10:=by simpa using h
  rw[Lib.decDigits,dif_pos h,n9,show Nat.blt u 10=true from by simpa[Nat.blt,Nat.lt_iff_add_one_le]using h];rfl
 |k+1,u,h=>by
  by_cases hu:u<10
  ·rw[Lib.decDigits,dif_pos hu,n9,show Nat.blt u 10=true from by simpa[Nat.blt,Nat.lt_iff_add_one_le]using hu];rfl
  ·rw[Lib.decDigits,dif_neg hu,n9,a81 hu];rw[show(cond false [UInt8.ofNat (48+u)] (n9 (k+1) (u/10)++[UInt8.ofNat (48+u%10)]))=n9 (k+1) (u/10)++[UInt8.ofNat (48+u%10)]from rfl,
    U1 k (u/10) (by rw[Nat.pow_succ]at h;omega)]
theorem a82{n:Int}(h:-9223372036854775808≤n∧n≤9223372036854775807):KF n=Lib.itoa n:=by
 unfold KF Lib.itoa;by_cases hn:n<0
 ·rw[if_pos hn,show decide (n<0)=true from by simpa using hn,U1 19 n.natAbs (by omega)];rfl
 ·rw[if_neg hn,show decide (n<0)=false from by simpa using hn,U1 19 n.toNat (by omega)];rfl
theorem a83(w:World)(k:Nat)(os:Array Obj)(X:List Nat):Kp X w (Go.Sort.grow (w.drewN k) os):=
 ⟨rfl,rfl,rfl,by simp[Go.Sort.grow,World.drewN],λi hi _=>by
  show((w.drewN k).heap++os)[i]?=_;rw[Array.getElem?_append_left (by show i<w.heap.size;omega)];rfl⟩
theorem lY{w:World}{L:List aB}(h:S0 F0 L w∧aD L=[]){g:Nat}{cs:List Value}{M:Av}(hs:(aB.iD g cs).p M w):S0 F0 (.iD g cs::L) w∧aD (.iD g cs::L)=[]:=by
 have he:aD (.iD g cs::L)=[]:=by simp[aD,aB.iD,h.2]
 refine⟨?_,he⟩;have GQ:SH F0 (aD L) w (.iD g cs::L) w:=h.1.add rfl ⟨hs.1,λhm=>by
  rcases hm with hm|hm
  ·exact hm
  ·rw[h.2]at hm;cases hm⟩
 rw[h.2]at GQ;show SH F0 (aD (.iD g cs::L)) w _ w;rw[he];exact GQ
end Go.V
namespace Go.Proofs.YtdkddffedangnaaGreatDoor
open Go.V Go.RowKit
theorem a84{w:World}{M:Av}(h:(aB.iD 0 (Lib.pow10Tab.map λz=>Value.int .u64 z)).p M w):Lib.TabIs Tryz.prog w "internal/strconv.uint64pow10" .u64 Lib.pow10Tab:=by
 obtain⟨⟨T,fr,h1⟩,_⟩:=h;unfold Lib.TabIs World.var?;rw[show Tryz.prog.globalNamed "internal/strconv.uint64pow10" =some 0 from by kernel_rfl,Option.bind_some,h1]
def BK(n:Int):Option a7:=az (-9223372036854775808≤n∧n≤9223372036854775807) (some (KF n))
theorem a1g(n:Int)(r:a7)(hm:BK n=some r)(w:World)(hL:S0 F0 [aB.iD 0 (Lib.pow10Tab.map λz=>Value.int .u64 z)] w∧aD [aB.iD 0 (Lib.pow10Tab.map λz=>Value.int .u64 z)]=[]):
  lG Tryz.prog 33 ⟨[.int .i64 n]⟩ (.string ⟨⟨r⟩⟩) w:=by
 obtain⟨h,hm⟩:=bY hm;obtain rfl:=cP hm;refine gA (L:=[aB.iD 0 (Lib.pow10Tab.map λz=>Value.int .u64 z)]) hL (Tryz.call33 _) λw' hS=>?_;rw[a82 h];refine(Tryz.strconv_Itoa n h.1 h.2 w' (a84 (hS.at 0 rfl))).mono ?_;rintro e w2 ⟨rfl,k,os,rfl⟩;refine⟨_,rfl,rfl,?_⟩;exact SH.gone hS (a83 w' k os _)
end Go.Proofs.YtdkddffedangnaaGreatDoor
namespace Go.V
open Go Go.RowKit
theorem a86{P:Program}{W:World}{name:String}{g:Nat}{cs:Array Value}(hg:P.globalNamed name=some g)(h:W.var? P name=some cs):∃T fr,W.heap[g]?=some (.cells cs T fr):=by
 unfold World.var? at h;rw[hg,Option.bind_some]at h;split at h
 ·rename_i E8 T fr he;exact⟨T,fr,by rw[he,Option.some.inj h]⟩
 ·cases h
theorem a88{P:Program}{W:World}{name:String}{k:IntKind}{zs:List Int}{g:Nat}{t e:TypeId}{n:Nat}
  (hg:P.globalNamed name=some g)(TA:(P.globals[g]?).map (·.type)=some t)(ht:P.underlying t=some (.array n e))(he:P.underlying e=some (.int k))(K9:P.cellsOf e=1)(TC:P.cellsOf t=n)
  (h:Lib.VarReads P W name (Lib.tabData k zs)):(aB.iD g (zs.map λz=>Value.int k z)).p F0 W:=by
 obtain⟨g',t',cs,fuel,p,yF,TD,TE,hd⟩:=h;obtain rfl:=Option.some.inj (hg.symm.trans yF);obtain rfl:=Option.some.inj (TA.symm.trans TD);have hc:=Lib.cells_of_tab ht he K9 TC hd;obtain⟨T,fr,hh⟩:=a86 hg TE;refine⟨⟨T,fr,?_⟩,λh=>h⟩;obtain⟨l⟩:=cs;have hc:l=zs.map λz=>Value.int k z:=hc;rw[hh,hc]
end Go.V
namespace Go.V
open Go
theorem na{x:Int}(h:-9223372036854775808≤x)(h':x<9223372036854775808):J x=x:=by
 show IntKind.i64.wrap x=x;unfold IntKind.wrap;simp only[IntKind.bits,IntKind.signed,Bool.true_and];split<;>rename_i hh<;>simp only[ge_iff_le,decide_eq_true_eq]at hh<;>omega
theorem hZ{α:Type}[Inhabited α](l:List α)(i:Nat)(h:i<l.length):gi l (i:Int)=l[i]:=by
 simp[gi,List.getD_eq_getElem?_getD,List.getElem?_eq_getElem h]
theorem a89(s:a7)(i:Nat)(h:i<s.length):bU s (i:Int)=(s[i].toNat:Int):=by
 simp[bU,List.getD_eq_getElem?_getD,List.getElem?_eq_getElem h]
theorem a8a(x:Int):cI x=x%18446744073709551616:=by
 show IntKind.u64.wrap x=_;simp[IntKind.wrap,IntKind.bits,IntKind.signed]
theorem Ab{x:Int}(h:0≤x)(h':x<18446744073709551616):cI x=x:=by rw[a8a];exact Int.emod_eq_of_lt h h'
theorem a1h(x:Int):dc x=x%256:=by
 show IntKind.u8.wrap x=_;simp[IntKind.wrap,IntKind.bits,IntKind.signed]
theorem a8b{x:Int}(h:0≤x)(h':x<256):dc x=x:=by rw[a1h];exact Int.emod_eq_of_lt h h'
theorem qw{α:Type}{l:List α}{i:Nat}(h:i<l.length):decide ((i:Int)<ln l)=true:=by simp[ln,h]
theorem mB{α:Type}{l:List α}{i:Nat}(h:l.length≤i):decide ((i:Int)<ln l)=false:=by simp[ln];omega
theorem ej{α β:Type}{l:List α}{i:Nat}{k:Option β}(h:i<l.length):az (0≤(i:Int)∧(i:Int)<ln l) k=k:=by
 unfold az;rw[if_pos ⟨by omega,by unfold ln;omega⟩]
theorem cd{β:Type}{p:Prop}[Decidable p]{k:Option β}(h:p):az p k=k:=by unfold az;rw[if_pos h]
theorem bQ{i:Nat}(h:i<4611686018427387904):J ((i:Int)+1)=((i+1:Nat):Int):=by rw[na (by omega) (by omega)];rfl
theorem lt_eq{α β:Type}(e:α)(f:α→β):lt e f=f e:=rfl
theorem aN{α β:Type}(a:α)(f:α→Option β):Option.bind (some a) f=f a:=rfl
theorem bh{α:Sort _}(a b:α):cond false a b=b:=rfl
theorem bB{α:Sort _}(a b:α):cond true a b=a:=rfl
theorem yO{α:Type}[BEq α][LawfulBEq α]{a b:α}:(a==b)=false↔a≠b:=beq_eq_false_iff_ne
theorem eK{p:Prop}[Decidable p](h:¬p):decide p=false:=decide_eq_false h
theorem kq{p:Prop}[Decidable p](h:p):decide p=true:=decide_eq_true h
theorem fx{α:Type}{a:α}{l:List α}:(a::l).length=l.length+1:=rfl
theorem fg{α:Type}{a b:List α}:(a++b).length=a.length+b.length:=List.length_append
theorem ia{α:Type}:([]:List α).length=0:=rfl
theorem ov{α:Type}{i:Nat}{l:List α}(h:i<l.length):l.drop i=l[i]::l.drop (i+1):=List.drop_eq_getElem_cons h
theorem yP{α:Type}{l:List α}{i:Nat}(h:l.length≤i):l.drop i=[]:=List.drop_eq_nil_of_le h
theorem pa{α:Type}{l:List α}:l.drop 0=l:=rfl
theorem du(n:Nat):n≤n:=Nat.le_refl n
theorem wk:(!true)=false:=rfl
theorem U2:(!false)=true:=rfl
theorem fI(n:Nat):0≤n:=Nat.zero_le n
theorem uD{p:Prop}[Decidable p](h:decide p=true):p:=of_decide_eq_true h
theorem tA{α:Type}(a b c:List α):a++b++c=a++(b++c):=List.append_assoc a b c
theorem a8c{α:Type}{l:List α}(h:l.length=0):l=[]:=List.eq_nil_of_length_eq_zero h
theorem a8d(b:Bool):(true&&b)=b:=rfl
theorem alM(b:Bool):(b&&true)=b:=Bool.and_true b
theorem KG(b:Bool):(false||b)=b:=rfl
theorem alN:∀{x y:Bool},(x||y)=false↔x=false∧y=false:=Bool.or_eq_false_iff
end Go.V
