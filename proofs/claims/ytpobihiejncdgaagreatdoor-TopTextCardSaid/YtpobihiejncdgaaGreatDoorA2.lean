/-
 'append' onto a slice that is read and has no room: a new row. A thing of the call's own that is lent. Nothing here is a statement of this claim.
-/
import Derived.Test.YtpobihiejncdgaaGreatDoorA1
import Derived.ArgAppend
import Derived.Laws.IdiomCopy
import Derived.StillTail
import Derived.Lib.AppendZeros
namespace Go.V
open Go Go.RowKit
section
variable {P:Program} {a:Act} {w:World} {n:Nat} {l:SF} {M:Av} {D:List Deferred}
end
section
variable {M:Av} {X:List Nat} {w0 w w':World} {L R:List aj}
end
section
variable {P:Program} {a:Act} {w:World} {n:Nat} {l:SF} {M:Av} {D:List Deferred}
end
section
variable {P:Program} {a:Act} {w:World} {n:Nat} {l:SF} {M:Av} {D:List Deferred}
theorem WA{α:Type}{T:Ty α}{d:Nat}{t E ty:TypeId}{x lo hi mx:Operand}{pos:String}{after:Array Edge}{g:Gh}{q:List α}{n0 c0:Nat}{a0:Option Addr}{L:List aj}{k k2 k3:IntKind}(i j:Int)(H:ay D n l a)(hS:S0 M L w)(hs:cI T (eu M L) w q g)
  (hx:ev l [] x=some (.slice a0 n0 c0))(ha:g.a=a0)(hc:g.c=c0)(hn:q.length=n0)(yz:ev l [] lo=some (.int k3 i))(Gk:ev l [] hi=some (.int k j))(Pu:ev l [] mx=some (.int k2 j))
  (hu:P.underlying t=some (.slice E))(hz:(P.info? E).map (·.size)=some T.z)(cY:0≤i∧i≤j∧j≤ln q):
  bc P ⟨some d,.slice t x (some lo) (some hi) (some mx),ty,pos,after,none⟩ a w λv w'=>∃g':Gh,v=.slice g'.a (dD q i j).length (dD q i j).length∧SH M (aG L) w (.im T (dD q i j) (.mk g'.a (dD q i j).length g'.s)::L) w':=by
 subst ha hc hn;have hlen:(dD q i j).length=j.toNat-i.toNat:=wF q cY;have gk:(sizeOf E).run P w=.ok T.z w:=ke hz;have Gz:=hs.1.cp;have hj:j.toNat≤g.c:=by unfold ln at cY;omega
 have iX:cI T (eu M L) w (dD q i j) (.mk (if j.toNat-i.toNat=0 then g.a else g.a.map (·.add (i.toNat*T.z))) (j.toNat-i.toNat) (λk=>g.s (i.toNat+k))):=by
  rcases Nat.eq_zero_or_pos (dD q i j).length with h0|h0
  ·have:=List.eq_nil_of_length_eq_zero h0;rw[this];exact cI.nil
  ·rw[hlen]at h0;have h1:=hs.sub cY;rw[if_neg (show¬g.c=i.toNat by omega)]at h1;rw[if_neg (show¬j.toNat-i.toNat=0 by omega)];exact⟨⟨h1.1.ok,h1.1.lt,h1.1.av,h1.1.get,by rw[hlen];exact Nat.le_refl _⟩,h1.2⟩
 refine bc.pa (v:=.slice (if j.toNat-i.toNat=0 then g.a else g.a.map (·.add (i.toNat*T.z))) (j.toNat-i.toNat) (j.toNat-i.toNat)) (w':=w) ?_ ⟨.mk (if j.toNat-i.toNat=0 then g.a else g.a.map (·.add (i.toNat*T.z))) (j.toNat-i.toNat) (λk=>g.s (i.toNat+k)),?_,?_⟩
 ·have hb:(Instr.sliceBounds true q.length g.c (some (.int k3 i)) (some (.int k j)) (some (.int k2 j))).run P w=.ok (i.toNat,j.toNat,j.toNat) w:=by
   have q1:j≤(g.c:Int):=by omega
   have q2:0≤j:=by omega
   have q3:j≤max j 0:=by omega
   have q4:i≤max j 0:=by omega
   have q5:=cY.1;simp[Instr.sliceBounds,Instr.sliceBound,asIntOf,q1,q2,q3,q4,q5]
  have Ar:(if j.toNat=i.toNat then g.a else g.a.map (·.add (i.toNat*T.z)))=(if j.toNat-i.toNat=0 then g.a else g.a.map (·.add (i.toNat*T.z))):=by
   by_cases he:j.toNat=i.toNat
   ·rw[if_pos he,if_pos (by omega)]
   ·rw[if_neg he,if_neg (by omega)]
  rw[←Ar];simp only[execOp,H.ev (eZ a) hx,Instr.sliceAt,Sem.run_bind,run_underlying hu,Result.andThen_ok,Option.map_some,H.ev (eZ a) yz,H.ev (eZ a) Gk,H.ev (eZ a) Pu,Instr.slice,hb,gk,Sem.run_pure]
 ·rw[hlen];rfl
 ·rw[hlen];exact hS.rp iX
end
theorem cI.nl{α:Type}{T:Ty α}{M:Av}{w:World}{l:List α}{g:Gh}(h:cI T M w l g)(hn:g.a=none):l=[]:=by
 cases l with
 |nil=>rfl
 |cons x r=>
  have:=h.1.ok (by simp);unfold cK at this;rw[hn]at this;cases this
section
variable {D:List Deferred}
def DG(a:Option Addr)(c i z:Nat):Option Addr:=if c=i then a else a.map (·.add (i*z))
theorem add_zero'(x:Addr):x.add 0=x:=by unfold Addr.add;split<;>simp_all
section
variable {P:Program} {a:Act} {w:World} {n:Nat} {l:SF} {M:Av}
end
section
variable {P:Program} {a:Act} {w:World} {n:Nat} {l:SF} {M:Av}
end
end
section
variable {D:List Deferred}
theorem Sl.a4B{k:IntKind}{w:World}{a:Option Addr}{l:List Int}(h:Sl (AB k) 1 w a l)(s:Nat→Nat→Gh):Sl (ic (tI k)) 1 w a (dC l s 0):=by
 refine⟨λhl=>h.ok (by rw[er]at hl;exact hl),λhl=>h.lt (by rw[er]at hl;exact hl),λi hi j v hv=>?_⟩;rw[KJ]at hv;exact h.get i (by rw[er]at hi;exact hi) j v hv
section
variable {P:Program} {a:Act} {w:World} {n:Nat} {l:SF} {M:Av}
theorem WB{d:Nat}{s x:Operand}{t ty e:TypeId}{pos:String}{after:Array Edge}{g1:Gh}{n1 n2 c1 c2 b off:Nat}{a1:Option Addr}{l1 q0 q2:List Int}{m:Int}(q:List Int)(hq:l1++q2=q)(h2:(q0.drop off).take n2=q2)(H:ay D n l a)(hS:S0 M [.own e (tI .u8) l1 g1,.row .u8 b q0 m] w)
  (hs:ev l [] s=some (.slice a1 n1 c1))(hx:ev l [] x=some (.slice (some ⟨b,off,none⟩) n2 c2))(lY:g1.a=a1)(iZ:g1.c=c1)(jD:l1.length=n1)
  (hu:P.underlying t=some (.slice e))(hi:(P.info? e).map (λi=>(i.size,Nat.ble i.bytes 128,i.zero))=some (1,true,some (.int .u8 0)))(kD:n2≤(q0.drop off).length)
  (hl:V.ln l1+V.ln q2≤1099511627776):
  bc P ⟨some d,.call ⟨.builtin .append,#[s,x],#[t,t]⟩,ty,pos,after,none⟩ a w λv w'=>∃g:Gh,v=.slice g.a q.length g.c∧SH M (aG [.own e (tI .u8) l1 g1,.row .u8 b q0 m]) w [.own e (tI .u8) q g,.row .u8 b q0 m] w':=by
 have ho:=hS.ow 0 rfl;have hm:=hS.rw 1 rfl;have hd:Dj (cR g1.a) [b]:=by
  have:=hS.nd;rw[List.pairwise_cons]at this;exact this.1 (.row .u8 b q0 m) (by simp)
 have mc:q2.length=n2:=by rw[←h2,List.length_take];omega
 have iX:Sl (AB .u8) 1 w (some ⟨b,off,none⟩) q2:=by
  have h0:=hm.1.sl (off:=off);rw[←h2];refine⟨λhl=>h0.ok (by rw[List.length_take]at hl;omega),λhl=>h0.lt (by rw[List.length_take]at hl;omega),λi hi j v hv=>?_⟩;rw[List.getElem_take]at hv;exact h0.get i (by rw[List.length_take]at hi;omega) j v hv
 refine(Pg (P:=P) (T:=tI .u8) (zv:=.int .u8 0) (d:=d) (ty:=ty) (pos:=pos) (after:=after) (g1:=g1) (s2:=λ_ _=>.nil) (l1:=l1) (l2:=q2) q hq H hs hx lY iZ jD mc hu hi rfl rfl ho.ow (iX.a4B _) hl).mono ?_;rintro v w' ⟨g,rfl,hk,iY,how,yI⟩;have oc:Kp (aG [.own e (tI .u8) l1 g1,.row .u8 b q0 m]) w w':=hk.wide (by intro b hb;simp only[aG,aj.own,List.mem_append];exact .inl hb);have lo:∀b'∈aG [aj.own e (tI .u8) q g,.row .u8 b q0 m],w.heap.size≤b'∨b'∈aG [.own e (tI .u8) l1 g1,.row .u8 b q0 m]:=by
  intro b' hb;simp only[aG,aj.own,List.append_nil,List.mem_append]at hb;rcases hb with hb|hb
  ·rcases iY with h|h
   ·exact .inr (by simp only[aG,aj.own,List.mem_append];exact .inl (h▸hb))
   ·rw[h]at hb;simp at hb;exact .inl (by omega)
  ·exact .inr (by simp only[aG,aj.own,List.mem_append];exact .inr (.inl hb))
 refine⟨g,rfl,SH.step hS oc ?_ lo ?_⟩
 ·rw[List.pairwise_cons];refine⟨λf hf=>?_,by simp⟩;rw[List.mem_singleton]at hf;subst hf;intro y hy gm;rcases iY with h|h
  ·exact hd y (h▸hy) gm
  ·have wA:y∈cR g.a:=hy;rw[h]at wA;simp at wA;have h3:y=b:=by simpa[aj.row]using gm
   have:=hm.1.lt;omega
 ·intro f hf;rcases List.mem_cons.1 hf with rfl|hf
  ·exact⟨how,λi hi=>trivial⟩
  ·rw[List.mem_singleton]at hf;subst hf;exact⟨hm.1.kp hk (λhb=>hd b hb (by simp)),hm.2⟩
theorem a4C{d:Nat}{s x:Operand}{t ty e:TypeId}{pos:String}{after:Array Edge}{g1:Gh}{n1 c1 c2 b m:Nat}{a1:Option Addr}{l1 q0:List Int}{mm i:Int}(q:List Int)(hq:l1++q0.drop i.toNat=q)(H:ay D n l a)(hS:S0 M [.own e (tI .u8) l1 g1,.row .u8 b q0 mm] w)
  (hs:ev l [] s=some (.slice a1 n1 c1))(hx:ev l [] x=some (.slice (some ⟨b,0+i.toNat*1,none⟩) (m-i.toNat) c2))(lY:g1.a=a1)(iZ:g1.c=c1)(jD:l1.length=n1)
  (hu:P.underlying t=some (.slice e))(hi:(P.info? e).map (λi=>(i.size,Nat.ble i.bytes 128,i.zero))=some (1,true,some (.int .u8 0)))(VR:mm=(m:Int))
  (hl:V.ln l1+V.ln (q0.drop i.toNat)≤1099511627776):
  bc P ⟨some d,.call ⟨.builtin .append,#[s,x],#[t,t]⟩,ty,pos,after,none⟩ a w λv w'=>∃g:Gh,v=.slice g.a q.length g.c∧SH M (aG [.own e (tI .u8) l1 g1,.row .u8 b q0 mm]) w [.own e (tI .u8) q g,.row .u8 b q0 mm] w':=by
 have hm:=(hS.rw 1 rfl).2;have h1:q0.length=m:=by unfold V.ln at hm;omega
 refine WB q hq ?_ H hS hs hx lY iZ jD hu hi ?_ hl
 ·rw[Nat.zero_add,Nat.mul_one];exact List.take_of_length_le (by rw[List.length_drop];omega)
 ·rw[Nat.zero_add,Nat.mul_one,List.length_drop];omega
theorem a4D{d:Nat}{t E:TypeId}{x:Operand}{ty:TypeId}{pos:String}{after:Array Edge}{g:Gh}{q:List Int}{n0 c0:Nat}{a0:Option Addr}(H:ay D n l a)(hS:S0 M [.own E (tI .u8) q g] w)
  (hx:ev l [] x=some (.slice a0 n0 c0))(ha:g.a=a0)(hc:g.c=c0)(hn:q.length=n0)(h0:Nat.blt 0 q.length=true)(ht:P.underlying t=some (.slice E))(hE:P.underlying E=some (.int .u8)):
  bc P ⟨some d,.convert t t x,ty,pos,after,none⟩ a w λv w'=>v=.slice g.a q.length g.c∧SH M (aG [.own E (tI .u8) q g]) w [.im (tI .u8) q g] w':=by
 subst ha hc hn;have ho:=hS.ow 0 rfl;have lx:0<q.length:=Nat.le_of_ble_eq_true h0;have Gz:=ho.cp;rcases ho.ow.row.2 with⟨_,h1⟩|⟨gb,cap,fP,hv,_,hg,h3,h4,h5,h6⟩
 ·rw[er]at h1;omega
 simp only[Value.slice.injEq]at hv;obtain⟨pj,_,Wu⟩:=hv;have aM:gb<w.heap.size:=ho.ow.lt gb (by rw[pj];simp[cR])
 let w3:World:=w.freeze ⟨gb,fP.size,none⟩ 1
 have Pj:w.shape? gb=some (E,fP.size):=by
  simp only[World.shape?,hg]
 have yL:(convert t t (.slice g.a q.length g.c)).run P w=.ok (.slice g.a q.length g.c) w3:=by
  rw[pj];simp[convert,run_underlying ht,run_underlying hE,markStringish,Pj,w3]
 have GA:w3.heap[gb]?=some (.cells fP E (fP.size,fP.size+1)):=by
  simp only[w3,World.freeze,Nat.one_ne_zero,if_false,Array.getElem?_modify,if_true,hg];simp
 have a4E:∀k,w3.cell? ⟨gb,k,none⟩=w.cell? ⟨gb,k,none⟩:=by
  intro k;simp only[World.cell?,GA,hg]
 have KN:Kp [gb] w w3:=by
  refine⟨rfl,rfl,rfl,?_,?_⟩
  ·simp only[w3,World.freeze,Nat.one_ne_zero,if_false,Array.size_modify];omega
  ·intro b' yJ cQ;have a4F:b'≠gb:=by simpa using cQ
   simp only[w3,World.freeze,Nat.one_ne_zero,if_false,Array.getElem?_modify,if_neg (Ne.symm a4F)]
 have iN:aG [aj.own E (tI .u8) q g]=[gb]:=by simp only[aG,aj.own,pj,cR,List.append_nil]
 refine bc.pa (v:=.slice g.a q.length g.c) (w':=w3) ?_ ⟨rfl,SH.step hS (by rw[iN];exact KN) (by simp) (by simp[aG,aj.im]) ?_⟩
 ·simp[execOp,H.ev (eZ a) hx,yL]
 ·intro f hf;rw[List.mem_singleton]at hf;subst hf;have iX:=ho.Gq.1;refine⟨⟨iX.ok,λhl=>?_,λ_=>?_,λi hi j v hv=>?_,Gz⟩,λi hi=>trivial⟩
  ·exact Nat.lt_of_lt_of_le (iX.lt hl) KN.size
  ·intro hM;rcases hM with hM|hM
   ·rw[pj]at hM;exact hS.nm gb (by rw[iN];simp) hM
   ·cases hM
  ·have:=iX.get i hi j v hv;rw[show ab g.a=gb from by rw[pj];rfl]at this⊢;rw[a4E];exact this
end
theorem a4G{P:Program}{w:World}{t e:TypeId}{k:IntKind}{n:Int}(q:List J)(hu:P.underlying t=some (.array q.length e))(he:P.underlying e=some .string)(hz:(P.info? e).map (·.size)=some 1)(h:0≤n∧n<ln q):
  (Instr.index t (.agg ⟨q.map λs=>.string ⟨⟨s⟩⟩⟩) (.int k n)).run P w=.ok (.string ⟨⟨gi q n⟩⟩) w:=by
 have hl:n.toNat<q.length:=by unfold ln at h;omega
 have hg:gi q n=q[n.toNat]:=by simp[gi,List.getD_eq_getElem?_getD,List.getElem?_eq_getElem hl]
 have hv:pZ P e (q.map λs=>.string ⟨⟨s⟩⟩) (n.toNat*1)=some (.string ⟨⟨gi q n⟩⟩):=by
  unfold pZ;rw[he];simp only[Ao,cond_false,Nat.mul_one,List.getElem?_map,List.getElem?_eq_getElem hl,Option.map_some,hg]
 have hp:=yB (w:=w) hv;simp only[Instr.index,asIntOf,Sem.run_bind,Sem.run_pure,Result.andThen_ok,run_underlying hu];rw[if_pos (by unfold ln at h;exact h)];simp only[Sem.run_bind,ke hz,Result.andThen_ok,hp]
theorem a4H{P:Program}{α:Type}{T:Ty α}{w:World}{M:Av}{t E:TypeId}{q:List α}{g:Gh}{lo hi:Option Value}(i j:Int)(h:gN E T M w q g)(h1:(lo=none∧i=0)∨∃k,lo=some (.int k i))(h2:(hi=none∧j=ln q)∨∃k,hi=some (.int k j))
  (hu:P.underlying t=some (.slice E))(hz:(P.info? E).map (·.size)=some T.z)(cY:0≤i∧i≤j∧j≤ln q)(w':World):
  (Instr.sliceAt t (.slice g.a q.length g.c) lo hi none).run P w'=.ok (.slice (DG g.a g.c i.toNat T.z) (j.toNat-i.toNat) (g.c-i.toNat)) w':=by
 have Gz:=h.cp;have gk:(sizeOf E).run P w'=.ok T.z w':=ke hz;have hb:(Instr.sliceBounds true q.length g.c lo hi none).run P w'=.ok (i.toNat,j.toNat,g.c) w':=by
  have hj:j.toNat≤q.length:=by unfold ln at cY;omega
  have q1:i.toNat≤j.toNat:=by omega
  have q2:j.toNat≤g.c:=by omega
  have q0:=cY.1;have q5:(j:Int)≤(g.c:Int):=by omega
  have q6:0≤j:=by omega
  have q7:=cY.2.1;rcases h2 with⟨rfl,rfl⟩|⟨k',rfl⟩<;>rcases h1 with⟨rfl,rfl⟩|⟨k,rfl⟩
  ·simp[Instr.sliceBounds,ln]
  ·have:i≤(q.length:Int):=cY.2.1;simp[Instr.sliceBounds,Instr.sliceBound,asIntOf,cY.1,this,ln]
  ·simp[Instr.sliceBounds,Instr.sliceBound,asIntOf,q5,q6]
  ·have q8:i≤max j 0:=by omega
   simp[Instr.sliceBounds,Instr.sliceBound,asIntOf,q5,q6,q0,q8]
 simp only[Instr.sliceAt,Sem.run_bind,run_underlying hu,Result.andThen_ok,Instr.slice,hb,gk,Sem.run_pure];rfl
theorem a4I{P:Program}{w:World}{s t E:TypeId}{q:List Int}{g:Gh}{M:Av}{i j:Int}(hs:P.underlying s=some (.slice E))(ht:P.underlying t=some .string)(hE:P.underlying E=some (.int .u8))(h:cI (tI .u8) M w q g)(cY:0≤i∧i≤j∧j≤ln q):
  ∀w',Below w.heap.size w w'→(convert s t (.slice (DG g.a g.c i.toNat 1) (j.toNat-i.toNat) (g.c-i.toNat))).run P w'=.ok (.string ⟨⟨bD (dD q i j)⟩⟩) w':=by
 intro w' hb;have h1:=nB (w:=w) hs ht hE (h.sub cY) w' hb;rw[wF q cY]at h1;exact h1
end
section
variable {M:Av} {X:List Nat} {w0 w w':World} {L La Lr L':List aj}
theorem DH(A B:List aj):aG (A++B)=aG A++aG B:=by
 induction A with
 |nil=>rfl
 |cons e r ih=>simp[aG,ih]
theorem Pv{A B:List aj}(h:A.Perm B){b:Nat}:b∈aG A↔b∈aG B:=by
 rw[kG,kG];exact⟨λ⟨e,he,hb⟩=>⟨e,h.mem_iff.1 he,hb⟩,λ⟨e,he,hb⟩=>⟨e,h.mem_iff.2 he,hb⟩⟩
theorem SH.perm(h:SH M X w0 L w)(hp:L.Perm L'):SH M X w0 L' w:=
 ⟨h.kp,(hp.pairwise_iff (λ{e f} h=>Dj.symm h)).1 h.nd,λb hb=>h.lo b ((Pv hp).2 hb),λb hb=>h.nm b ((Pv hp).2 hb),h.mx,λe he=>e.dB (h.ps e (hp.mem_iff.2 he)) λb hb=>by
  rcases hb with hb|hb
  ·exact .inl hb
  ·exact .inr ((Pv hp).2 hb)⟩
theorem SH.AM(h:SH M X w0 (La++Lr) w):S0 (eu M Lr) La w:=by
 have hn:=h.nd;rw[List.pairwise_append]at hn;have fX:∀{b:Nat},b∈aG La→b∈aG (La++Lr):=λhb=>by rw[DH];exact List.mem_append_left _ hb
 have DJ:∀{b:Nat},b∈aG Lr→b∈aG (La++Lr):=λhb=>by rw[DH];exact List.mem_append_right _ hb
 refine⟨Kp.refl _ _,hn.1,λb hb=>.inr hb,λb hb hm=>?_,λb hm=>?_,λe he=>e.dB (h.ps e (List.mem_append_left _ he)) λb hb=>?_⟩
 ·rcases hm with hm|hm
  ·exact h.nm b (fX hb) hm
  ·obtain⟨e,he,AG⟩:=kG.1 hb;obtain⟨f,hf,Pw⟩:=kG.1 hm;exact hn.2.2 e he f hf b AG Pw
 ·rcases hm with hm|hm
  ·exact Nat.lt_of_lt_of_le (h.mx b hm) h.kp.size
  ·exact h.We (DJ hm)
 ·rcases hb with(hb|hb)|hb
  ·exact .inl hb
  ·exact .inr (DJ hb)
  ·exact .inr (fX hb)
theorem SH.AN(h:SH M X w0 (La++Lr) w)(h2:SH (eu M Lr) (aG La) w L' w'):SH M X w0 (L'++Lr) w':=by
 have hn:=h.nd;rw[List.pairwise_append]at hn;have fX:∀{b:Nat},b∈aG La→b∈aG (La++Lr):=λhb=>by rw[DH];exact List.mem_append_left _ hb
 have DJ:∀{b:Nat},b∈aG Lr→b∈aG (La++Lr):=λhb=>by rw[DH];exact List.mem_append_right _ hb
 have KQ:∀{b:Nat},b∈aG (L'++Lr)→b∈aG L'∨b∈aG Lr:=λhb=>by rw[DH]at hb;exact List.mem_append.1 hb
 refine⟨h.kp.trans h2.kp (λy hy=>?_),?_,λb hb=>?_,λb hb=>?_,h.mx,λe he=>?_⟩
 ·rcases h.lo y (fX hy)with h1|h1
  ·exact .inr h1
  ·exact .inl h1
 ·rw[List.pairwise_append];refine⟨h2.nd,hn.2.1,λe he f hf y hy AF=>?_⟩;exact h2.nm y (kG.2 ⟨e,he,hy⟩) (.inr (kG.2 ⟨f,hf,AF⟩))
 ·rcases KQ hb with hb|hb
  ·rcases h2.lo b hb with h1|h1
   ·exact .inl (Nat.le_trans h.kp.size h1)
   ·exact h.lo b (fX h1)
  ·exact h.lo b (DJ hb)
 ·rcases KQ hb with hb|hb
  ·exact λhm=>h2.nm b hb (.inl hm)
  ·exact h.nm b (DJ hb)
 ·rcases List.mem_append.1 he with he|he
  ·refine e.dB (h2.ps e he) λb hb=>?_;rcases hb with hb|hb
   ·exact .inl (.inl hb)
   ·rcases KQ hb with hb|hb
    ·exact .inr hb
    ·exact .inl (.inr hb)
  ·have hp:=e.fresh (h.ps e (List.mem_append_right _ he));refine e.dB (e.kp hp h2.kp (λb hb=>.inl (.inr (fX hb))) (λb hb yJ=>?_)) λb hb=>?_
   ·obtain⟨f,hf,Pw⟩:=kG.1 yJ;exact hn.2.2 f hf e he b Pw hb
   ·rcases hb with hb|hb
    ·exact .inl (.inl hb)
    ·rcases KQ hb with hb|hb
     ·rcases h2.lo b hb with h1|h1
      ·exact .inr h1
      ·exact .inl (.inr (fX h1))
     ·exact .inl (.inr (DJ hb))
end
abbrev Gm:=Nat→Nat→Gh
def dQ(y:Gm)(i:Nat)(g:Nat→Gh):Gm:=λj=>cond (Nat.beq j i) g (y j)
theorem a4J(y:Gm)(g:Nat→Gh){i j:Nat}(h:j≠i):dQ y i g j=y j:=by
 unfold dQ;cases hb:Nat.beq j i with
 |true=>exact absurd (Nat.eq_of_beq_eq_true hb) h
 |false=>rfl
def fY:Nat→Nat→(Nat→Prop)→Prop
 |0,_,_=>True
 |n+1,i,p=>p i∧fY n (i+1) p
theorem fY.get{p:Nat→Prop}:∀{n i:Nat},fY n i p→∀j,i≤j→j<i+n→p j
 |0,i,_,j,h1,h2=>by omega
 |n+1,i,h,j,h1,h2=>by
  by_cases e:j=i
  ·subst e;exact h.1
  ·exact fY.get h.2 j (by omega) (by omega)
def eo(all:List Oper)(i:Nat):Option Nat:=(all[i]?).bind (·.dst)
def sP(n:Nat)(base:SF)(all:List Oper):Bool:=
 (all.all λo=>true&&match o.dst with|some d=>Nat.blt d n&&base.all λe=>e.2.1.isEmpty&&!(Nat.beq e.1 d)|none=>base.all λe=>e.2.1.isEmpty)&&AO (all.map (·.dst))
where AO:List (Option Nat)→Bool
 |[]=>true
 |none::r=>AO r
 |some d::r=>(r.all λq=>match q with|some e=>!(Nat.beq d e)|none=>true)&&AO r
theorem KR:∀{l:List (Option Nat)},sP.AO l=true→∀(i j:Nat)(d e:Nat),i<j→l[i]?=some (some d)→l[j]?=some (some e)→d≠e
 |[],_,i,j,d,e,_,h,_=>by simp at h
 |none::r,hn,i,j,d,e,cY,h1,h2=>by
  match i,j,cY with
  |0,_,_=>simp at h1
  |i+1,j+1,cY=>exact KR (l:=r) (by simpa[sP.AO]using hn) i j d e (by omega) (by simpa using h1) (by simpa using h2)
 |some x::r,hn,i,j,d,e,cY,h1,h2=>by
  have KS:(r.all λq=>match q with|some e=>!(Nat.beq x e)|none=>true)=true∧sP.AO r=true:=by simpa[sP.AO]using hn
  match i,j,cY with
  |0,j+1,_=>
   have hx:x=d:=by simpa using h1
   subst hx;have:=(List.all_eq_true.1 KS.1) (some e) (List.mem_of_getElem? (by simpa using h2));intro Px;subst Px;simp at this
  |i+1,j+1,cY=>exact KR (l:=r) KS.2 i j d e (by omega) (by simpa using h1) (by simpa using h2)
def cZ(N:Nat)(ress:Gm→List (List aj))(L:List aj)(y:Gm):List Nat→List aj
 |[]=>[]
 |j::r=>(cond (Nat.blt j N) ((ress y).getD j []) [L.getD (j-N) .none])++cZ N ress L y r
def ig(l:List Nat)(j:Nat):Bool:=l.any λk=>Nat.beq k j
theorem oh{l:List Nat}{j:Nat}:ig l j=true↔j∈l:=by
 unfold ig;rw[List.any_eq_true];exact⟨λ⟨k,hk,h⟩=>by rw[←Nat.eq_of_beq_eq_true h];exact hk,λh=>⟨j,h,by simp⟩⟩
def nodupB:List Nat→Bool
 |[]=>true
 |k::r=>!ig r k&&nodupB r
theorem WC:∀{l:List Nat},nodupB l=true→l.Nodup
 |[],_=>List.nodup_nil
 |k::r,h=>by
  unfold nodupB at h;rw[Bool.and_eq_true]at h;rw[List.nodup_cons];refine⟨λhk=>?_,WC h.2⟩;rw[oh.2 hk]at h;simp at h
def DK(N m:Nat)(all:List Oper)(use cons cE:List (List Nat)):Bool:=
 (List.range N).all λi=>
  nodupB (use.getD i [])&&
  ((use.getD i []).all λj=>Nat.blt j (N+m)&&(!(Nat.blt j N)||reach all N i j)&&(List.range N).all λk=>!(ig (cons.getD k []) j)||Nat.beq k i||reach all N k i)&&
  ((cons.getD i []).all λj=>ig (use.getD i []) j)&&
  ((cE.getD i []).all λj=>Nat.beq j i||reach all N i j)&&
  ((List.range N).all λk=>Nat.beq k i||(cons.getD k []).all λj=>!(ig (cons.getD i []) j))
def ij(listed:Array Bool)(k:Nat):Bool:=listed.getD k false
def po(N:Nat)(cons:List (List Nat))(listed:Array Bool)(j:Nat):Bool:=(List.range N).any λk=>ij listed k&&ig (cons.getD k []) j
def kH(N m:Nat)(cons:List (List Nat))(listed:Array Bool):List Nat:=(List.range (N+m)).filter λj=>(!(Nat.blt j N)||ij listed j)&&!(po N cons listed j)
def yN(N m:Nat)(cons:List (List Nat)):List Nat:=(List.range (N+m)).filter λj=>!((List.range N).any λk=>ig (cons.getD k []) j)
section
variable {N:Nat} {ress:Gm→List (List aj)} {L:List aj} {y:Gm}
theorem WD(A B:List Nat):cZ N ress L y (A++B)=cZ N ress L y A++cZ N ress L y B:=by
 induction A with
 |nil=>rfl
 |cons j r ih=>simp[cZ,ih]
theorem WE{A B:List Nat}(h:A.Perm B):(cZ N ress L y A).Perm (cZ N ress L y B):=by
 induction h with
 |nil=>exact List.Perm.nil
 |cons x _ ih=>exact List.Perm.append_left _ ih
 |swap x z l=>
  simp only[cZ,←List.append_assoc];exact List.Perm.append_right _ List.perm_append_comm
 |trans _ _ h1 h2=>exact h1.trans h2
theorem a4K{y':Gm}{A:List Nat}(h:∀j∈A,Nat.blt j N=true→(ress y).getD j []=(ress y').getD j []):cZ N ress L y A=cZ N ress L y' A:=by
 induction A with
 |nil=>rfl
 |cons j r ih=>
  simp only[cZ];rw[ih λk hk=>h k (List.mem_cons_of_mem _ hk)];congr 1;cases hb:Nat.blt j N with
  |true=>simp only[cond_true];exact h j List.mem_cons_self hb
  |false=>rfl
end
def DL(N:Nat)(all:List Oper)(fk:List (Nat×Nat×Value)):Bool:=
 fk.all λe=>Nat.blt e.2.1 N&&(List.range N).all λi=>Nat.beq i e.2.1||!(eo all i==some e.1)
structure DI{n:Nat}(N m:Nat)(base:SF)(all:List Oper)(cons:List (List Nat))(c9:Gm→List Value)(ress:Gm→List (List aj))(L:List aj)(fk:List (Nat×Nat×Value))(M:Av)(X:List Nat)(wE:World)(listed:Array Bool)(a:Act)(w:World)(y:Gm):Prop where
 size:listed.size=N
 fr:ay [] n base a
 did:∀i,ij listed i=true→∀d,eo all i=some d→a.tmps[d]?=some ((c9 y).getD i undef)
 cl:∀(i:Nat)(o:Oper),ij listed i=true→all[i]?=some o→∀e∈o.after,Region.binds .any e=true→ij listed e.on=true
 sh:SH M X wE (cZ N ress L y (kH N m cons listed)) w
 od:∀(k:Nat) e,fk[k]?=some e→ij listed e.2.1=false→a.tmps[e.1]?=some e.2.2
theorem GB{l:List Nat}(p:Nat→Bool)(h:l.Nodup):(l.filter p).Nodup:=List.Pairwise.filter p h
theorem nt{b:Bool}:(!b)=true↔¬b=true:=by cases b<;>simp
theorem WG{j N:Nat}:Nat.blt j N=true↔j<N:=by simp[Nat.blt,Nat.lt_iff_add_one_le]
theorem oi{listed:Array Bool}{i:Nat}:ij listed i=true↔listed[i]?=some true:=by
 unfold ij;rw[Array.getD_eq_getD_getElem?];cases h:listed[i]? with
 |none=>simp
 |some b=>simp
@[reducible] def yO (o:Oper):Oper:=match o with
 |⟨d,op,ty,pos,after,_⟩=>⟨d,op,ty,pos,after,none⟩
def us(all:List Oper)(c9:Gm→List Value)(cE:List (List Nat))(i:Nat):Option (Nat×Bool)→Prop
 |none=>True
 |some (j,b)=>(ig (cE.getD i []) j&&!(Nat.beq j i)&&(eo all j).isSome)=true∧∀y,(c9 y).getD j undef=.bool b
def WH(all:List Oper)(c9:Gm→List Value)(ress:Gm→List (List aj))(use cE:List (List Nat))(i:Nat):Option (Nat×Bool)→Prop
 |none=>False
 |some (j,b)=>(ig (cE.getD i []) j&&!(Nat.beq j i)&&(eo all j).isSome)=true∧((∀y,(c9 y).getD j undef=.bool (!b))∨∀y,(c9 y).getD j undef=undef)∧(∀y,(c9 y).getD i undef=undef∧(ress y).getD i []=[])∧use.getD i []=[]
theorem fY.and{p q:Nat→Prop}:∀{n i:Nat},fY n i p→fY n i q→fY n i λi=>p i∧q i
 |0,_,_,_=>trivial
 |_+1,_,h,k=>⟨⟨h.1,k.1⟩,fY.and h.2 k.2⟩
theorem fY.imp{p q:Nat→Prop}(f:∀i,p i→q i):∀{n i:Nat},fY n i p→fY n i q
 |0,_,_=>trivial
 |_+1,i,h=>⟨f i h.1,fY.imp f h.2⟩
theorem fl{all:List Oper}{c9:Gm→List Value}{cE:List (List Nat)}(h:(all.all λo=>o.guard.isNone)=true):∀n i,fY n i λi=>us all c9 cE i ((all[i]?).bind (·.guard))
 |0,_=>trivial
 |n+1,i=>by
  refine⟨?_,fl h n (i+1)⟩;show us all c9 cE i ((all[i]?).bind (·.guard));cases hi:all[i]? with
  |none=>trivial
  |some o=>
   have:=List.all_eq_true.1 h o (List.mem_of_getElem? hi);have h2:o.guard=none:=by simpa using this
   show us all c9 cE i o.guard;rw[h2];trivial
theorem a4L{P:Program}{n id:Nat}{all:List Oper}{Q:Exit→Act→World→Prop}{a:Act}{w wE:World}{base:SF}{M:Av}{X:List Nat}{L:List aj}(N m:Nat)(c9:Gm→List Value)(ress:Gm→List (List aj))(use cons cE:List (List Nat))(fk:List (Nat×Nat×Value))
  (H:ay [] n base a)(hold:∀(k:Nat) e,fk[k]?=some e→a.tmps[e.1]?=some e.2.2)(qe:DL N all fk=true)(hS:SH M X wE L w)(hm:P.follows .mixedOrders=true)(hN:all.length=N)(hL:L.length=m)(bQ:sP n base all=true)(iY:Dv all=true)(sQ:DK N m all use cons cE=true)
  (AP:fY N 0 λj=>∀(y:Gm)(i:Nat)(g:Nat→Gh),i∉cE.getD j []→(c9 (dQ y i g)).getD j undef=(c9 y).getD j undef∧(ress (dQ y i g)).getD j []=(ress y).getD j [])
  (hA:fY N 0 λi=>WH all c9 ress use cE i ((all[i]?).bind (·.guard))∨(us all c9 cE i ((all[i]?).bind (·.guard))∧∀o,all[i]?=some o→∀a' w' y M',ay [] n base a'→(∀j∈cE.getD i [],j≠i→∀d,eo all j=some d→a'.tmps[d]?=some ((c9 y).getD j undef))→(∀(k:Nat) e,fk[k]?=some e→(Nat.beq e.2.1 i||reach all N e.2.1 i)=true→a'.tmps[e.1]?=some e.2.2)→S0 M' (cZ N ress L y (use.getD i [])) w'→
   bc P (yO o) a' w' λv w2=>∃g:Nat→Gh,(∀d,eo all i=some d→v=(c9 (dQ y i g)).getD i undef)∧SH M' (aG (cZ N ress L y (use.getD i []))) w' ((ress (dQ y i g)).getD i []++cZ N ress L y ((use.getD i []).filter λj=>!(ig (cons.getD i []) j))) w2))
  (hK:∀a' w' y,ay [] n base a'→(∀i d,eo all i=some d→a'.tmps[d]?=some ((c9 y).getD i undef))→SH M X wE (cZ N ress L y (yN N m cons)) w'→Q .normal a' w'):
  (Code.region id all.toArray true).wp P Q a w:=by
 subst hN;have WI:∀(y:Gm)(i:Nat)(g:Nat→Gh)(j:Nat),j<all.length→i∉cE.getD j []→(c9 (dQ y i g)).getD j undef=(c9 y).getD j undef∧(ress (dQ y i g)).getD j []=(ress y).getD j []:=λy i g j hj=>AP.get j (by omega) (by omega) y i g;unfold sP at bQ;rw[Bool.and_eq_true,List.all_eq_true]at bQ;obtain⟨a4M,AQ⟩:=bQ;have a4N:∀i o,all[i]?=some o→True∧o.dst=eo all i∧(∀e∈base,e.2.1=[])∧∀d,eo all i=some d→Nat.blt d n=true∧∀e∈base,e.1≠d:=by
  intro i o ho;have h1:=a4M o (List.mem_of_getElem? ho);rw[Bool.and_eq_true]at h1;obtain⟨h2,h3⟩:=h1;have e1:eo all i=o.dst:=by simp[eo,ho]
  rw[e1];cases hd:o.dst with
  |none=>
   simp only[hd,List.all_eq_true]at h3;exact⟨trivial,rfl,λe he=>by have:=h3 e he;simpa using this,λd hd=>by cases hd⟩
  |some d=>
   simp only[hd,Bool.and_eq_true,List.all_eq_true]at h3;refine⟨trivial,rfl,λe he=>?_,λd' mA=>?_⟩
   ·have:=h3.2 e he;simp only[List.isEmpty_iff]at this;exact this.1
   ·cases mA;refine⟨h3.1,λe he=>?_⟩;have:=h3.2 e he;simp only[Bool.not_eq_true']at this;exact Nat.ne_of_beq_eq_false this.2
 have a4O:∀i j d e,i≠j→eo all i=some d→eo all j=some e→d≠e:=by
  intro i j d e cY h1 h2;have g1:(all.map (·.dst))[i]?=some (some d):=by
   unfold eo at h1;rw[List.getElem?_map];cases hx:all[i]? with
   |none=>rw[hx]at h1;cases h1
   |some o=>rw[hx]at h1;simpa using h1
  have g2:(all.map (·.dst))[j]?=some (some e):=by
   unfold eo at h2;rw[List.getElem?_map];cases hx:all[j]? with
   |none=>rw[hx]at h2;cases h2
   |some o=>rw[hx]at h2;simpa using h2
  rcases Nat.lt_or_gt_of_ne cY with aM|aM
  ·exact KR AQ i j d e aM g1 g2
  ·exact λh=>KR AQ j i e d aM g2 g1 h.symm
 have a4P:∀i o,all[i]?=some o→∀e∈o.after,Region.binds .any e=true→e.on<i:=by
  intro i o ho e he hb;have hi:i<all.length:=(List.getElem?_eq_some_iff.1 ho).1;have h1:=(List.all_eq_true.1 iY) i (List.mem_range.2 hi);rw[ho]at h1;have h2:=(List.all_eq_true.1 h1) e (by simpa using he);rw[hb]at h2;simpa[Nat.blt,Nat.lt_iff_add_one_le]using h2
 -- what was checked
 have Py:∀i,i<all.length→(use.getD i []).Nodup∧(∀j∈use.getD i [],j<all.length+m∧(j<all.length→reach all all.length i j=true)∧∀k,k<all.length→j∈cons.getD k []→k=i∨reach all all.length k i=true)∧
   (∀j∈cons.getD i [],j∈use.getD i [])∧(∀j∈cE.getD i [],j=i∨reach all all.length i j=true)∧∀k,k<all.length→k≠i→∀j∈cons.getD k [],j∉cons.getD i []:=by
  intro i hi;have h1:=(List.all_eq_true.1 sQ) i (List.mem_range.2 hi);simp only[Bool.and_eq_true]at h1;obtain⟨⟨⟨⟨h1,h2⟩,h3⟩,h4⟩,h5⟩:=h1;refine⟨WC h1,λj hj=>?_,λj hj=>oh.1 ((List.all_eq_true.1 h3) j hj),λj hj=>?_,λk hk hki j hj lB=>?_⟩
  ·have:=(List.all_eq_true.1 h2) j hj;simp only[Bool.and_eq_true,Bool.or_eq_true,Bool.not_eq_true']at this;obtain⟨⟨p1,p2⟩,p3⟩:=this;refine⟨by simpa[Nat.blt,Nat.lt_iff_add_one_le]using p1,λDM=>?_,λk hk hjk=>?_⟩
   ·rcases p2 with p2|p2
    ·have:Nat.blt j all.length=true:=by simpa[Nat.blt,Nat.lt_iff_add_one_le]using DM
     rw[this]at p2;cases p2
    ·exact p2
   ·have:=(List.all_eq_true.1 p3) k (List.mem_range.2 hk);simp only[Bool.or_eq_true,Bool.not_eq_true']at this;rcases this with(q|q)|q
    ·rw[oh.2 hjk]at q;cases q
    ·exact .inl (Nat.eq_of_beq_eq_true q)
    ·exact .inr q
  ·have:=(List.all_eq_true.1 h4) j hj;simp only[Bool.or_eq_true]at this;rcases this with q|q
   ·exact .inl (Nat.eq_of_beq_eq_true q)
   ·exact .inr q
  ·have:=(List.all_eq_true.1 h5) k (List.mem_range.2 hk);simp only[Bool.or_eq_true]at this;rcases this with q|q
   ·exact hki (Nat.eq_of_beq_eq_true q)
   ·have:=(List.all_eq_true.1 q) j hj;rw[oh.2 lB]at this;cases this
 refine wp_region_any hm ?_;have KT:∀(listed:Array Bool)(a':Act)(w':World)(y:Gm),DI (n:=n) all.length m base all cons c9 ress L fk M X wE listed a' w' y→Region.ready .any all.toArray listed=[]→Q .normal a' w':=by
  intro listed a' w' y hI hr;have yP:∀i,i<all.length→ij listed i=true:=by
   intro i
   induction i using Nat.strongRecOn with
   |_ i ih=>
    intro hi;have WJ:i<listed.size:=by rw[hI.size];exact hi
    cases hb:listed[i]with
    |true=>rw[oi,Array.getElem?_eq_getElem WJ,hb]
    |false=>
     exfalso;have:i∈Region.ready .any all.toArray listed:=by
      rw[mem_ready];refine⟨by simp[WJ,hb],all[i],by simp[hi],λe he Gt=>?_⟩;have aM:=a4P i all[i] (List.getElem?_eq_getElem hi) e he Gt;exact ih e.on aM (by omega)
     rw[hr]at this;cases this
  have sM:kH all.length m cons listed=yN all.length m cons:=by
   unfold kH yN;apply List.filter_congr;intro j _;have h1:(!(Nat.blt j all.length)||ij listed j)=true:=by
    cases hb:Nat.blt j all.length with
    |false=>rfl
    |true=>simp only[Bool.not_true,Bool.false_or];exact yP j (by simpa[Nat.blt,Nat.lt_iff_add_one_le]using hb)
   rw[h1,Bool.true_and];congr 1;unfold po;rw[Bool.eq_iff_iff,List.any_eq_true,List.any_eq_true];constructor
   ·rintro⟨k,hk,h⟩;rw[Bool.and_eq_true]at h;exact⟨k,hk,h.2⟩
   ·rintro⟨k,hk,h⟩;exact⟨k,hk,by rw[yP k (List.mem_range.1 hk),h];rfl⟩
  refine hK a' w' y hI.fr (λi d hd=>hI.did i (yP i ?_) d hd) (sM▸hI.sh);unfold eo at hd;rcases Nat.lt_or_ge i all.length with h|h
  ·exact h
  ·rw[List.getElem?_eq_none h]at hd;cases hd
 have key:∀(fuel:Nat)(listed:Array Bool)(a':Act)(w':World)(y:Gm),DI (n:=n) all.length m base all cons c9 ress L fk M X wE listed a' w' y→listed.toList.count false=fuel→wpAny P .any all.toArray Q fuel listed a' w':=by
  intro fuel
  induction fuel with
  |zero=>
   intro listed a' w' y hI hc;have WK:Region.ready .any all.toArray listed=[]:=by
    rw[List.eq_nil_iff_forall_not_mem];intro i hi;have h1:=(mem_ready.1 hi).1;have h2:=List.count_eq_zero.1 hc;have aM:i<listed.size:=by
     rcases Nat.lt_or_ge i listed.size with h|h
     ·exact h
     ·simp[Array.getD_eq_getD_getElem?,Array.getElem?_eq_none h]at h1
    apply h2;simp[Array.getD_eq_getD_getElem?,aM]at h1;rw[←h1];simp
   exact⟨WK,KT listed a' w' y hI WK⟩
  |succ fuel ih=>
   intro listed a' w' y hI hc;refine⟨KT listed a' w' y hI,λi hi=>?_⟩;obtain⟨WL,o,ho,yP⟩:=mem_ready.1 hi;have aM:i<listed.size:=by
    rcases Nat.lt_or_ge i listed.size with h|h
    ·exact h
    ·simp[Array.getD_eq_getD_getElem?,Array.getElem?_eq_none h]at WL
   have WM:listed[i]=false:=by simpa[Array.getD_eq_getD_getElem?,aM]using WL
   have KU:all[i]?=some o:=by simpa using ho
   obtain⟨_,hd,a4Q,WN⟩:=a4N i o KU;have DN:i<all.length:=by rw[←hI.size];exact aM
   obtain⟨c1,c2,c3,c4,c5⟩:=Py i DN;have yQ:∀e∈o.after,Region.binds .any e=true→listed[e.on]?=some true:=λe he hb=>oi.1 (yP e he hb);have Pz:∀(i:Nat)(o:Oper),listed[i]?=some true→all[i]?=some o→∀e∈o.after,Region.binds .any e=true→listed[e.on]?=some true:=λi o h1 h2 e he hb=>oi.1 (hI.cl i o (oi.2 h1) h2 e he hb);have KV:∀j,reach all all.length i j=true→ij listed j=true:=λj hj=>oi.2 (P5 Pz _ i j o KU yQ hj);have yR:ij listed i=false:=by
    cases hb:ij listed i with
    |false=>rfl
    |true=>rw[oi,Array.getElem?_eq_getElem aM,WM]at hb;cases hb
   have KW:∀k,ij listed k=true→reach all all.length k i=true→False:=by
    intro k hk hr;have hkl:k<all.length:=by
     rw[←hI.size];rcases Nat.lt_or_ge k listed.size with h|h
     ·exact h
     ·rw[oi,Array.getElem?_eq_none h]at hk;cases hk
    have bQ:all[k]?=some all[k]:=List.getElem?_eq_getElem hkl;have:=oi.2 (P5 Pz _ k i all[k] bQ (λe he hb=>Pz k _ (oi.1 hk) bQ e he hb) hr);rw[yR]at this;cases this
   -- what is used is there
   have GC:∀j∈use.getD i [],j∈kH all.length m cons listed:=by
    intro j hj;obtain⟨q1,q2,q3⟩:=c2 j hj;unfold kH;rw[List.mem_filter,List.mem_range,Bool.and_eq_true];refine⟨q1,?_,?_⟩
    ·rcases Nat.lt_or_ge j all.length with h|h
     ·rw[KV j (q2 h)];simp
     ·have:Nat.blt j all.length=false:=by
       cases hb:Nat.blt j all.length with
       |false=>rfl
       |true=>
        have:j<all.length:=by simpa[Nat.blt,Nat.lt_iff_add_one_le]using hb
        omega
      rw[this];rfl
    ·cases hb:po all.length cons listed j with
     |false=>rfl
     |true=>
      exfalso;unfold po at hb;rw[List.any_eq_true]at hb;obtain⟨k,hk,hb⟩:=hb;rw[Bool.and_eq_true]at hb;rcases q3 k (List.mem_range.1 hk) (oh.1 hb.2)with rfl|hr
      ·rw[yR]at hb;cases hb.1
      ·exact KW k hb.1 hr
   have PA:(kH all.length m cons listed).Nodup:=GB _ List.nodup_range
   let U:=use.getD i []
   let C:=cons.getD i []
   let R:=(kH all.length m cons listed).filter λj=>!(ig U j)
   have hpu:(kH all.length m cons listed).Perm (U++R):=by
    rw[List.perm_ext_iff_of_nodup PA]
    ·intro j;rw[List.mem_append,List.mem_filter];constructor
     ·intro hj;by_cases WO:j∈U
      ·exact .inl WO
      ·refine .inr ⟨hj,?_⟩;cases hb:ig U j with
       |false=>rfl
       |true=>exact absurd (oh.1 hb) WO
     ·rintro(hj|hj)
      ·exact GC j hj
      ·exact hj.1
    ·rw[List.nodup_append];refine⟨c1,GB _ PA,λx hx z hz e=>?_⟩;subst e;rw[List.mem_filter,oh.2 hx]at hz;cases hz.2
   have uu:=hI.sh.perm (WE (N:=all.length) (ress:=ress) (L:=L) (y:=y) hpu);rw[WD]at uu;have hh:=uu.AM;have a4R:∀(k:Nat) e,fk[k]?=some e→(Nat.beq e.2.1 i||reach all all.length e.2.1 i)=true→a'.tmps[e.1]?=some e.2.2:=by
    intro k e he hr;refine hI.od k e he ?_;rw[Bool.or_eq_true]at hr;rcases hr with hr|hr
    ·rw[Nat.eq_of_beq_eq_true hr];exact yR
    ·cases hb:ij listed e.2.1 with
     |false=>rfl
     |true=>exact(KW e.2.1 hb hr).elim
   have fin:∀(v:Value)(w2:World)(g:Nat→Gh),(∀d,eo all i=some d→v=(c9 (dQ y i g)).getD i undef)→SH (eu M (cZ all.length ress L y R)) (aG (cZ all.length ress L y U)) w' ((ress (dQ y i g)).getD i []++cZ all.length ress L y (U.filter λj=>!(ig C j))) w2→
     wpAny P .any all.toArray Q fuel (listed.setIfInBounds i true) (a'.put (eo all i) v) w2:=by
    intro v w2 g hv qg;have uv:∀j:Nat,ij (listed.setIfInBounds i true) j=true↔j=i∨ij listed j=true:=by
     intro j;rw[oi,oi,Array.getElem?_setIfInBounds];by_cases e:i=j
     ·subst e;simp[aM]
     ·rw[if_neg e];exact⟨λh=>.inr h,λh=>h.resolve_left λx=>e x.symm⟩
    have WQ:∀j,ij listed j=true→j<all.length:=by
     intro j hj;rw[←hI.size];rcases Nat.lt_or_ge j listed.size with h|h
     ·exact h
     ·rw[oi,Array.getElem?_eq_none h]at hj;cases hj
    -- the others stand on nothing of this one
    have WR:∀j,ij listed j=true→i∉cE.getD j []:=by
     intro j hj kf;obtain⟨_,_,_,d4,_⟩:=Py j (WQ j hj);rcases d4 i kf with e|hr
     ·subst e;rw[yR]at hj;cases hj
     ·exact KW j hj hr
    have WS:∀j,j∈kH all.length m cons listed→j<all.length→ij listed j=true:=by
     intro j hj DM;unfold kH at hj;rw[List.mem_filter,Bool.and_eq_true]at hj;have hb:Nat.blt j all.length=true:=by simpa[Nat.blt,Nat.lt_iff_add_one_le]using DM
     have:=hj.2.1;rw[hb]at this;simpa using this
    have WT:∀A:List Nat,(∀j∈A,j∈kH all.length m cons listed)→cZ all.length ress L y A=cZ all.length ress L (dQ y i g) A:=by
     intro A hA;refine a4K λj hj hb=>?_;have DM:j<all.length:=by simpa[Nat.blt,Nat.lt_iff_add_one_le]using hb
     exact(WI y i g j DM (WR j (WS j (hA j hj) DM))).2.symm
    have a4S:=uu.AN qg
    let K:=U.filter λj=>!(ig C j)
    have e1:cZ all.length ress L y K=cZ all.length ress L (dQ y i g) K:=WT K λj hj=>GC j (List.mem_filter.1 hj).1;have e2:cZ all.length ress L y R=cZ all.length ress L (dQ y i g) R:=WT R λj hj=>(List.mem_filter.1 hj).1;have hbi:Nat.blt i all.length=true:=by simpa[Nat.blt,Nat.lt_iff_add_one_le]using DN
    have e3:(ress (dQ y i g)).getD i []++cZ all.length ress L (dQ y i g) K++cZ all.length ress L (dQ y i g) R=cZ all.length ress L (dQ y i g) (i::(K++R)):=by
     simp only[cZ,hbi,cond_true,WD,List.append_assoc]
    have a4T:SH M X wE (cZ all.length ress L (dQ y i g) (i::(K++R))) w2:=by
     rw[←e3,←e1,←e2];exact a4S
    have wG:(i::(K++R)).Perm (kH all.length m cons (listed.setIfInBounds i true)):=by
     have a4U:∀j,po all.length cons (listed.setIfInBounds i true) j=true↔j∈C∨po all.length cons listed j=true:=by
      intro j;unfold po;rw[List.any_eq_true,List.any_eq_true];constructor
      ·rintro⟨k,hk,h⟩;rw[Bool.and_eq_true,uv]at h;rcases h.1 with rfl|h1
       ·exact .inl (oh.1 h.2)
       ·exact .inr ⟨k,hk,by rw[h1,h.2];rfl⟩
      ·rintro(h|⟨k,hk,h⟩)
       ·exact⟨i,List.mem_range.2 DN,by rw[Bool.and_eq_true,uv];exact⟨.inl rfl,oh.2 h⟩⟩
       ·rw[Bool.and_eq_true]at h;exact⟨k,hk,by rw[Bool.and_eq_true,uv];exact⟨.inr h.1,h.2⟩⟩
     have PB:i∉kH all.length m cons listed:=by
      intro h;have:=WS i h DN;rw[yR]at this;cases this
     have hiC:¬(i∈C∨po all.length cons listed i=true):=by
      rintro(h|h)
      ·exact PB (GC i (c3 i h))
      ·unfold po at h;rw[List.any_eq_true]at h;obtain⟨k,hk,h⟩:=h;rw[Bool.and_eq_true]at h;obtain⟨_,d2,d3,_,_⟩:=Py k (List.mem_range.1 hk);have hik:=d3 i (oh.1 h.2);exact KW k h.1 ((d2 i hik).2.1 DN)
     rw[List.perm_ext_iff_of_nodup]
     ·intro j;have DO:j∈kH all.length m cons (listed.setIfInBounds i true)↔j<all.length+m∧((¬j<all.length)∨j=i∨ij listed j=true)∧¬(j∈C∨po all.length cons listed j=true):=by
       unfold kH;rw[List.mem_filter,List.mem_range,Bool.and_eq_true,Bool.or_eq_true,uv,nt,nt,a4U,WG]
      have PC:j∈kH all.length m cons listed↔j<all.length+m∧((¬j<all.length)∨ij listed j=true)∧¬(po all.length cons listed j=true):=by
       unfold kH;rw[List.mem_filter,List.mem_range,Bool.and_eq_true,Bool.or_eq_true,nt,nt,WG]
      rw[DO,List.mem_cons,List.mem_append,List.mem_filter,List.mem_filter];have uw:∀(l:List Nat),(!(ig l j))=true↔j∉l:=λl=>by
       rw[Bool.not_eq_true',←oh (l:=l)];simp
      rw[uw,uw];constructor
      ·rintro(rfl|⟨h1,h2⟩|⟨h1,h2⟩)
       ·exact⟨by omega,.inr (.inl rfl),hiC⟩
       ·obtain⟨p1,p2,p3⟩:=PC.1 (GC j h1);refine⟨p1,p2.imp_right .inr,?_⟩;rintro(h|h)
        ·exact h2 h
        ·exact p3 h
       ·obtain⟨p1,p2,p3⟩:=PC.1 h1;refine⟨p1,p2.imp_right .inr,?_⟩;rintro(h|h)
        ·exact h2 (c3 j h)
        ·exact p3 h
      ·rintro⟨p1,p2,p3⟩;by_cases e:j=i
       ·exact .inl e
       ·right;have KE:j∈kH all.length m cons listed:=PC.2 ⟨p1,p2.imp_right λh=>h.resolve_left e,λh=>p3 (.inr h)⟩;by_cases hu:j∈U
        ·exact .inl ⟨hu,λh=>p3 (.inl h)⟩
        ·exact .inr ⟨KE,hu⟩
     ·rw[List.nodup_cons,List.nodup_append];refine⟨λh=>?_,GB _ c1,GB _ PA,λx hx z hz e=>?_⟩
      ·rw[List.mem_append,List.mem_filter,List.mem_filter]at h;rcases h with h|h
       ·exact PB (GC i h.1)
       ·exact PB h.1
      ·subst e;rw[List.mem_filter]at hx hz;rw[oh.2 hx.1]at hz;cases hz.2
     ·exact GB _ List.nodup_range
    refine ih (listed.setIfInBounds i true) (a'.put (eo all i) v) w2 (dQ y i g) ⟨by simp[hI.size],?_,?_,?_,a4T.perm (WE wG),?_⟩ ?_
    ·cases iO:eo all i with
     |none=>exact hI.fr
     |some d=>
      obtain⟨iP,Gt⟩:=WN d iO;have h1:ay [] n (jC base d [] v) (a'.put (some d) v):=ay.set (H:=hI.fr) iP;refine⟨h1.1,h1.2.1,λe he=>?_⟩;have lZ:=a4Q e he;have cQ:=Gt e he;have h2:=hI.fr.2.2 e he;rw[lZ]at h2⊢;refine⟨λ_=>?_,λx=>absurd (eZ _) x⟩;rw[Dk cQ];exact h2.1 (eZ _)
    ·intro j hj d sR;rcases(uv j).1 hj with e1|lB
     ·subst e1;have gk:d<a'.tmps.size:=by
       have h1:=hI.fr.2.1;have:d<n:=by simpa[Nat.blt,Nat.lt_iff_add_one_le]using(WN d sR).1
       omega
      rw[hv d sR,sR];simp[Act.put,gk]
     ·have cQ:j≠i:=λe=>by subst e;rw[yR]at lB;cases lB
      have WU:=hI.did j lB d sR;rw[(WI y i g j (WQ j lB) (WR j lB)).1];cases iO:eo all i with
      |none=>exact WU
      |some d2=>
       rw[Dk (a4O j i d d2 cQ sR iO)];exact WU
    ·intro j oj hj PD e he hb;rcases(uv j).1 hj with e1|lB
     ·subst e1;rw[KU]at PD;cases PD;exact(uv _).2 (.inr (oi.2 (yQ e he hb)))
     ·exact(uv _).2 (.inr (hI.cl j oj lB PD e he hb))
    ·intro k e he hl;have cQ:e.2.1≠i∧ij listed e.2.1=false:=by
      refine⟨λh=>?_,?_⟩
      ·rw[h,(uv i).2 (.inl rfl)]at hl;cases hl
      ·cases hb:ij listed e.2.1 with
       |false=>rfl
       |true=>rw[(uv _).2 (.inr hb)]at hl;cases hl
     have h0:=hI.od k e he cQ.2;have h1:=(List.all_eq_true.1 qe) e (List.mem_of_getElem? he);rw[Bool.and_eq_true]at h1;have h2:=(List.all_eq_true.1 h1.2) i (List.mem_range.2 DN);rw[Bool.or_eq_true]at h2;have h3:¬eo all i=some e.1:=by
      rcases h2 with h2|h2
      ·exact absurd (Nat.eq_of_beq_eq_true h2).symm cQ.1
      ·simpa using h2
     cases iO:eo all i with
     |none=>exact h0
     |some d=>
      rw[Dk (λh=>h3 (by rw[iO,h]))];exact h0
    ·rw[Array.toList_setIfInBounds,List.count_set (by simpa using aM)];simp[WM,hc]
   have WV:=hA.get i (by omega) (by omega);rw[KU]at WV;unfold wpOp;rw[ho];rcases WV with DP|⟨KX,a4V⟩
   ·replace DP:WH all c9 ress use cE i o.guard:=DP;have PE:Region.wanted o (yielded all.toArray a'.tmps)=false∧(∀y,(c9 y).getD i undef=undef∧(ress y).getD i []=[])∧U=[]:=by
     cases ux:o.guard with
     |none=>rw[ux]at DP;exact DP.elim
     |some jb=>
      obtain⟨j,b⟩:=jb;rw[ux]at DP;obtain⟨g1,g2,g3,g4⟩:=DP;rw[Bool.and_eq_true,Bool.and_eq_true,Bool.not_eq_true']at g1;have hj:j∈cE.getD i []:=oh.1 g1.1.1;have AR:j≠i:=Nat.ne_of_beq_eq_false g1.1.2;obtain⟨d,sR⟩:=Option.isSome_iff_exists.1 g1.2;have h1:=hI.did j (KV j ((c4 j hj).resolve_left AR)) d sR;refine⟨?_,g3,g4⟩;have h0:((all.toArray[j]?).bind (·.dst))=some d:=by simpa[eo]using sR
      rcases g2 with g2|g2
      ·rw[g2 y]at h1;have h2:yielded all.toArray a'.tmps j=some (!b):=by
        unfold yielded;rw[h0];simp only[Option.bind_some,h1]
       simp[Region.wanted,ux,h2]
      ·rw[g2 y]at h1;have h2:yielded all.toArray a'.tmps j=none:=by
        unfold yielded;rw[h0];simp only[Option.bind_some,h1,undef]
       simp[Region.wanted,ux,h2]
    obtain⟨PE,WW,hU⟩:=PE;simp only[PE,if_false,Bool.false_eq_true];rw[hd];refine fin undef w' (y i) (λd _=>(WW _).1.symm) ?_;rw[(WW _).2,hU];rw[hU]at hh;exact hh
   ·have hw:Region.wanted o (yielded all.toArray a'.tmps)=true:=by
     replace KX:us all c9 cE i o.guard:=KX;cases ux:o.guard with
     |none=>simp[Region.wanted,ux]
     |some jb=>
      obtain⟨j,b⟩:=jb;rw[ux]at KX;obtain⟨g1,g2⟩:=KX;rw[Bool.and_eq_true,Bool.and_eq_true,Bool.not_eq_true']at g1;have hj:j∈cE.getD i []:=oh.1 g1.1.1;have AR:j≠i:=Nat.ne_of_beq_eq_false g1.1.2;obtain⟨d,sR⟩:=Option.isSome_iff_exists.1 g1.2;have h1:=hI.did j (KV j ((c4 j hj).resolve_left AR)) d sR;rw[g2 y]at h1;have h2:yielded all.toArray a'.tmps j=some b:=by
       unfold yielded;rw[show((all.toArray[j]?).bind (·.dst))=some d from by simpa[eo]using sR];simp only[Option.bind_some,h1]
      simp[Region.wanted,ux,h2]
    simp only[hw,if_true];left;have jE:=a4V o rfl a' w' y _ hI.fr (λj hj AR=>hI.did j (KV j ((c4 j hj).resolve_left AR))) a4R hh;obtain⟨ajd,op0,ty0,aje,ajf,ajg⟩:=o;refine jE Q _ ?_;rintro v w2 ⟨g,hv,qg⟩;rw[hd];exact fin v w2 g hv qg
 have iF:cZ all.length ress L (λ_ _=>.nil) (kH all.length m cons (Array.replicate all.toArray.size false))=L:=by
  have GD:∀k,ij (Array.replicate all.toArray.size false) k=false:=by
   intro k;cases hb:ij (Array.replicate all.toArray.size false) k with
   |false=>rfl
   |true=>
    rw[oi,Array.getElem?_replicate]at hb;split at hb<;>cases hb
  have h1:kH all.length m cons (Array.replicate all.toArray.size false)=(List.range m).map (all.length+·):=by
   unfold kH;have hu:∀j,po all.length cons (Array.replicate all.toArray.size false) j=false:=by
    intro j;unfold po;rw[List.any_eq_false];intro k _;rw[GD];simp
   rw[List.range_add,List.filter_append];have p1:(List.range all.length).filter (λj=>(!(Nat.blt j all.length)||ij (Array.replicate all.toArray.size false) j)&&!(po all.length cons (Array.replicate all.toArray.size false) j))=[]:=by
    rw[List.filter_eq_nil_iff];intro j hj;have:Nat.blt j all.length=true:=by simpa[Nat.blt,Nat.lt_iff_add_one_le]using List.mem_range.1 hj
    rw[this,GD];simp
   rw[p1,List.nil_append,List.filter_eq_self];intro j hj;obtain⟨k,_,rfl⟩:=List.mem_map.1 hj;have:Nat.blt (all.length+k) all.length=false:=by
    cases hb:Nat.blt (all.length+k) all.length with
    |false=>rfl
    |true=>
     have:all.length+k<all.length:=by simpa[Nat.blt,Nat.lt_iff_add_one_le]using hb
     omega
   rw[this,hu];rfl
  rw[h1];have h2:∀(q:List Nat),cZ all.length ress L (λ_ _=>.nil) (q.map (all.length+·))=q.map λk=>L.getD k .none:=by
   intro q
   induction q with
   |nil=>rfl
   |cons k r ih=>
    have:Nat.blt (all.length+k) all.length=false:=by
     cases hb:Nat.blt (all.length+k) all.length with
     |false=>rfl
     |true=>
      have:all.length+k<all.length:=by simpa[Nat.blt,Nat.lt_iff_add_one_le]using hb
      omega
    simp only[List.map_cons,cZ,this,cond_false,ih,Nat.add_sub_cancel_left];rfl
  rw[h2,←hL];apply List.ext_getElem
  ·simp
  ·intro i h1 h2;simp at h1;simp[h1]
 have GD:∀k,ij (Array.replicate all.toArray.size false) k=true→False:=by
  intro k hb;rw[oi,Array.getElem?_replicate]at hb;split at hb<;>cases hb
 refine key all.length (Array.replicate all.toArray.size false) a _ (λ_ _=>.nil) ⟨by simp,H,λi hi=>(GD i hi).elim,λi o hi=>(GD i hi).elim,?_,λk e he _=>hold k e he⟩ (by simp);rw[iF];exact hS.below ⟨rfl,rfl,rfl,Nat.le_refl _,λ_ _=>rfl⟩
theorem a4W{P:Program}{n id:Nat}{all:List Oper}{Q:Exit→Act→World→Prop}{a:Act}{w wE:World}{base:SF}{M:Av}{X:List Nat}{L:List aj}(N m:Nat)(c9:Gm→List Value)(ress:Gm→List (List aj))(use cons cE:List (List Nat))(fk:List (Nat×Nat×Value))
  (H:ay [] n base a)(hold:∀(k:Nat) e,fk[k]?=some e→a.tmps[e.1]?=some e.2.2)(qe:DL N all fk=true)(hS:SH M X wE L w)(hm:P.follows .mixedOrders=true)(hN:all.length=N)(hL:L.length=m)(bQ:sP n base all=true)(iY:Dv all=true)(sQ:DK N m all use cons cE=true)(wJ:fY N 0 λi=>us all c9 cE i ((all[i]?).bind (·.guard)))
  (AP:fY N 0 λj=>∀(y:Gm)(i:Nat)(g:Nat→Gh),i∉cE.getD j []→(c9 (dQ y i g)).getD j undef=(c9 y).getD j undef∧(ress (dQ y i g)).getD j []=(ress y).getD j [])
  (wK:fY N 0 λi=>∀o,all[i]?=some o→∀a' w' y M',ay [] n base a'→(∀j∈cE.getD i [],j≠i→∀d,eo all j=some d→a'.tmps[d]?=some ((c9 y).getD j undef))→(∀(k:Nat) e,fk[k]?=some e→(Nat.beq e.2.1 i||reach all N e.2.1 i)=true→a'.tmps[e.1]?=some e.2.2)→S0 M' (cZ N ress L y (use.getD i [])) w'→
   bc P (yO o) a' w' λv w2=>∃g:Nat→Gh,(∀d,eo all i=some d→v=(c9 (dQ y i g)).getD i undef)∧SH M' (aG (cZ N ress L y (use.getD i []))) w' ((ress (dQ y i g)).getD i []++cZ N ress L y ((use.getD i []).filter λj=>!(ig (cons.getD i []) j))) w2)
  (hK:∀a' w' y,ay [] n base a'→(∀i d,eo all i=some d→a'.tmps[d]?=some ((c9 y).getD i undef))→SH M X wE (cZ N ress L y (yN N m cons)) w'→Q .normal a' w'):
  (Code.region id all.toArray true).wp P Q a w:=
  a4L N m c9 ress use cons cE fk H hold qe hS hm hN hL bQ iY sQ AP ((wJ.and wK).imp λ_ h=>.inr h) hK
theorem a4X{y:Gm}{g:Nat→Gh}{i k:Nat}{l:List Nat}(hi:i∉l)(hk:ig l k=true):dQ y i g k=y k:=a4J y g λe=>hi (e▸oh.1 hk)
def AU(ks:List Nat)(y:Gm):Gm:=λk=>cond (ig ks k) (y k) (λ_=>.nil)
theorem WX{P:Program}{n id:Nat}{all:List Oper}{a:Act}{w wE:World}{base:SF}{M:Av}{X:List Nat}{L:List aj}{N' R':dx}{ES:List (Nat×dx)}(N m:Nat)(c9:Gm→List Value)(ress:Gm→List (List aj))(use cons cE:List (List Nat))(fk:List (Nat×Nat×Value))
  (H:ay [] n base a)(hold:∀(k:Nat) e,fk[k]?=some e→a.tmps[e.1]?=some e.2.2)(qe:DL N all fk=true)(hS:SH M X wE L w)(hm:P.follows .mixedOrders=true)(hN:all.length=N)(hL:L.length=m)(bQ:sP n base all=true)(iY:Dv all=true)(sQ:DK N m all use cons cE=true)(wJ:fY N 0 λi=>us all c9 cE i ((all[i]?).bind (·.guard)))
  (AP:fY N 0 λj=>∀(y:Gm)(i:Nat)(g:Nat→Gh),i∉cE.getD j []→(c9 (dQ y i g)).getD j undef=(c9 y).getD j undef∧(ress (dQ y i g)).getD j []=(ress y).getD j [])
  (wK:fY N 0 λi=>∀o,all[i]?=some o→∀a' w' y M',ay [] n base a'→(∀j∈cE.getD i [],j≠i→∀d,eo all j=some d→a'.tmps[d]?=some ((c9 y).getD j undef))→(∀(k:Nat) e,fk[k]?=some e→(Nat.beq e.2.1 i||reach all N e.2.1 i)=true→a'.tmps[e.1]?=some e.2.2)→S0 M' (cZ N ress L y (use.getD i [])) w'→
   bc P (yO o) a' w' λv w2=>∃g:Nat→Gh,(∀d,eo all i=some d→v=(c9 (dQ y i g)).getD i undef)∧SH M' (aG (cZ N ress L y (use.getD i []))) w' ((ress (dQ y i g)).getD i []++cZ N ress L y ((use.getD i []).filter λj=>!(ig (cons.getD i []) j))) w2)
  (hK:∀a' w' y,ay [] n base a'→(∀i d,eo all i=some d→a'.tmps[d]?=some ((c9 y).getD i undef))→SH M X wE (cZ N ress L y (yN N m cons)) w'→N' a' w'):(Code.region id all.toArray true).wp P (Qs N' ES R') a w:=a4W N m c9 ress use cons cE fk H hold qe hS hm hN hL bQ iY sQ wJ AP wK hK
theorem a4Y{P:Program}{n id:Nat}{all:List Oper}{a:Act}{w wE:World}{base:SF}{M:Av}{X:List Nat}{L:List aj}{N' R':dx}{ES:List (Nat×dx)}{z:Code}(N m:Nat)(c9:Gm→List Value)(ress:Gm→List (List aj))(use cons cE:List (List Nat))(fk:List (Nat×Nat×Value))
  (H:ay [] n base a)(hold:∀(k:Nat) e,fk[k]?=some e→a.tmps[e.1]?=some e.2.2)(qe:DL N all fk=true)(hS:SH M X wE L w)(hm:P.follows .mixedOrders=true)(hN:all.length=N)(hL:L.length=m)(bQ:sP n base all=true)(iY:Dv all=true)(sQ:DK N m all use cons cE=true)(wJ:fY N 0 λi=>us all c9 cE i ((all[i]?).bind (·.guard)))
  (AP:fY N 0 λj=>∀(y:Gm)(i:Nat)(g:Nat→Gh),i∉cE.getD j []→(c9 (dQ y i g)).getD j undef=(c9 y).getD j undef∧(ress (dQ y i g)).getD j []=(ress y).getD j [])
  (wK:fY N 0 λi=>∀o,all[i]?=some o→∀a' w' y M',ay [] n base a'→(∀j∈cE.getD i [],j≠i→∀d,eo all j=some d→a'.tmps[d]?=some ((c9 y).getD j undef))→(∀(k:Nat) e,fk[k]?=some e→(Nat.beq e.2.1 i||reach all N e.2.1 i)=true→a'.tmps[e.1]?=some e.2.2)→S0 M' (cZ N ress L y (use.getD i [])) w'→
   bc P (yO o) a' w' λv w2=>∃g:Nat→Gh,(∀d,eo all i=some d→v=(c9 (dQ y i g)).getD i undef)∧SH M' (aG (cZ N ress L y (use.getD i []))) w' ((ress (dQ y i g)).getD i []++cZ N ress L y ((use.getD i []).filter λj=>!(ig (cons.getD i []) j))) w2)
  (hK:∀a' w' y,ay [] n base a'→(∀i d,eo all i=some d→a'.tmps[d]?=some ((c9 y).getD i undef))→SH M X wE (cZ N ress L y (yN N m cons)) w'→z.wp P (Qs N' ES R') a' w'):(Code.seq (.region id all.toArray true) z).wp P (Qs N' ES R') a w:=p7 (WX N m c9 ress use cons cE fk H hold qe hS hm hN hL bQ iY sQ wJ AP wK hK)
section
variable {D:List Deferred}
def pkP(Ls:List aj)(M:Av)(w:World):Prop:=Ls.Pairwise (λ(e f:aj)=>Dj e.fp f.fp)∧∀e∈Ls,e.p M w
def aj.pk(Ls:List aj):aj where
 fp:=aG Ls
 p:=pkP Ls
 kp:=λh k hM hX=>⟨h.1,λe he=>e.kp (h.2 e he) k hM λb hb=>hX b (kG.2 ⟨e,he,hb⟩)⟩
 dB:=λh hM=>⟨h.1,λe he=>e.dB (h.2 e he) hM⟩
 fresh:=λh=>⟨h.1,λe he=>e.fresh (h.2 e he)⟩
 lt:=λh b hb=>by
  obtain⟨e,he,AG⟩:=kG.1 hb;exact e.lt (h.2 e he) b AG
section
variable {M:Av} {X:List Nat} {w0 w:World} {L Ls:List aj}
theorem DQ:aG (aj.pk Ls::L)=aG (Ls++L):=by rw[DH];rfl
theorem SH.pack(h:SH M X w0 (Ls++L) w):SH M X w0 (.pk Ls::L) w:=by
 have hn:=h.nd;rw[List.pairwise_append]at hn;have ha:∀b,eu M (.pk Ls::L) b→eu M (Ls++L) b:=λb hb=>by
  rcases hb with hb|hb
  ·exact .inl hb
  ·rw[DQ]at hb;exact .inr hb
 refine⟨h.kp,?_,λb hb=>h.lo b (by rw[←DQ];exact hb),λb hb=>h.nm b (by rw[←DQ];exact hb),h.mx,λe he=>?_⟩
 ·rw[List.pairwise_cons];refine⟨λf hf y hy AF=>?_,hn.2.1⟩;obtain⟨e,he,hye⟩:=kG.1 (show y∈aG Ls from hy);exact hn.2.2 e he f hf y hye AF
 ·rcases List.mem_cons.1 he with rfl|he
  ·exact⟨hn.1,λe he=>e.dB (h.ps e (List.mem_append_left _ he)) ha⟩
  ·exact e.dB (h.ps e (List.mem_append_right _ he)) ha
theorem SH.unpack(h:SH M X w0 (.pk Ls::L) w):SH M X w0 (Ls++L) w:=by
 have hn:=h.nd;rw[List.pairwise_cons]at hn;have hp:(aj.pk Ls).p (eu M (.pk Ls::L)) w:=h.ps _ List.mem_cons_self;have ha:∀b,eu M (Ls++L) b→eu M (.pk Ls::L) b:=λb hb=>by
  rcases hb with hb|hb
  ·exact .inl hb
  ·rw[←DQ]at hb;exact .inr hb
 refine⟨h.kp,?_,λb hb=>h.lo b (by rw[DQ];exact hb),λb hb=>h.nm b (by rw[DQ];exact hb),h.mx,λe he=>?_⟩
 ·rw[List.pairwise_append];exact⟨hp.1,hn.2,λe he f hf y hy AF=>hn.1 f hf y (kG.2 ⟨e,he,hy⟩) AF⟩
 ·rcases List.mem_append.1 he with he|he
  ·exact e.dB (hp.2 e he) ha
  ·exact e.dB (h.ps e (List.mem_cons_of_mem _ he)) ha
end
abbrev Hd(α:Type):=List α×Gh
def eH(α:Type):Ty (Hd α):=.flat 1 (λp=>[.slice p.2.a p.1.length p.2.c]) (λ_=>rfl) (λ_=>rfl)
def iQ{α:Type}(E:TypeId)(T:Ty α)(qs:List (Hd α)):List aj:=qs.map λq=>.own E T q.1 q.2
def aj.fm{α:Type}(E:TypeId)(T:Ty α)(qs:List (Hd α)):aj:=.pk (iQ E T qs)
section
variable {α:Type} {E E2:TypeId} {T:Ty α} {M:Av} {X:List Nat} {w0 w:World} {L:List aj} {qs:List (Hd α)}
theorem SH.a4Z(h:SH M X w0 L w):SH M X w0 (.fm E T [(([]:List α),.nil)]::L) w:=SH.pack (Ls:=iQ E T [([],.nil)]) (h.KM E T)
theorem SH.a50(h:SH M X w0 (.fm E T qs::L) w):SH M X w0 (.fm E T (qs++[([],.nil)])::L) w:=by
 have h1:=(SH.unpack h).KM E T;refine SH.pack (h1.perm ?_);show(aj.own E T ([]:List α) .nil::(iQ E T qs++L)).Perm (iQ E T (qs++[([],.nil)])++L);have e:iQ E T (qs++[(([]:List α),Gh.nil)])++L=iQ E T qs++aj.own E T ([]:List α) .nil::L:=by simp[iQ]
 rw[e];exact List.perm_middle.symm
theorem WY{β:Type}:∀(l:List β)(k:Nat)(_:k<l.length),(l[k]::l.eraseIdx k).Perm l
 |_::_,0,_=>List.Perm.refl _
 |x::r,k+1,hk=>(List.Perm.swap _ _ _).trans ((WY r k (by simpa using hk)).cons x)
theorem WZ{β:Type}(q:β):∀(l:List β)(k:Nat)(_:k<l.length),(q::l.eraseIdx k).Perm (l.set k q)
 |_::_,0,_=>List.Perm.refl _
 |x::r,k+1,h=>(List.Perm.swap _ _ _).trans ((WZ q r k (by simpa using h)).cons x)
theorem X0{k:Nat}(hk:k<qs.length):(aj.own E T qs[k].1 qs[k].2::iQ E T (qs.eraseIdx k)).Perm (iQ E T qs):=
 (WY qs k hk).map λq:Hd α=>aj.own E T q.1 q.2
theorem X1{k:Nat}(hk:k<qs.length)(q:Hd α):(aj.own E T q.1 q.2::iQ E T (qs.eraseIdx k)).Perm (iQ E T (qs.set k q)):=
 (WZ q qs k hk).map λq:Hd α=>aj.own E T q.1 q.2
theorem PF{k:Int}(hk:0≤k∧k<ln qs):gi qs k=qs[k.toNat]'(by unfold ln at hk;omega):=by
 have h:k.toNat<qs.length:=by unfold ln at hk;omega
 simp[gi,List.getD_eq_getElem?_getD,List.getElem?_eq_getElem h]
theorem GF:V.ln (qs.map (·.1))=V.ln qs:=by simp[V.ln]
theorem GG{k:Int}(hk:0≤k∧k<V.ln qs):gi (qs.map (·.1)) k=(gi qs k).1:=by
 rw[PF hk];have h:k.toNat<qs.length:=by unfold V.ln at hk;omega
 simp[gi,List.getD_eq_getElem?_getD,List.getElem?_eq_getElem h]
theorem KY{k:Int}{p:Hd α}:cy (qs.map (·.1)) k p.1=(cy qs k p).map (·.1):=by simp[cy,List.map_set]
theorem PG{β:Type}{l:List β}{k:Int}{p q:β}:cy (cy l k p) k q=cy l k q:=by simp[cy]
theorem X2{β:Type}[Inhabited β]{l:List β}{k:Int}{p:β}(hk:0≤k∧k<V.ln l):gi (cy l k p) k=p:=by
 have h:k.toNat<l.length:=by unfold V.ln at hk;omega
 simp[gi,cy,List.getD_eq_getElem?_getD,h]
theorem X3{β:Type}{l:List β}{x y:β}:cy (l++[x]) (V.ln l) y=l++[y]:=by simp[cy,V.ln]
theorem X4{k:Int}{p p':Hd α}(h:Value.slice p'.2.a p'.1.length p'.2.c=Value.slice p.2.a p.1.length p.2.c):(cy qs k p).map (λp:Hd α=>Value.slice p.2.a p.1.length p.2.c)=(cy (cy qs k p) k p').map λp:Hd α=>Value.slice p.2.a p.1.length p.2.c:=by
 rw[PG];simp only[cy,List.map_set,h]
theorem SH.KZ{k:Int}(hk:0≤k∧k<V.ln qs)(h:SH M X w0 (.fm E T qs::L) w):SH M X w0 (.own E T (gi qs k).1 (gi qs k).2::.fm E T (qs.eraseIdx k.toNat)::L) w:=by
 have DR:k.toNat<qs.length:=by unfold V.ln at hk;omega
 rw[PF hk];have h1:SH M X w0 (iQ E T (qs.eraseIdx k.toNat)++.own E T qs[k.toNat].1 qs[k.toNat].2::L) w:=(SH.unpack h).perm (((X0 DR).symm.append_right _).trans List.perm_middle.symm);exact(SH.pack (Ls:=iQ E T (qs.eraseIdx k.toNat)) h1).perm (List.Perm.swap _ _ _)
theorem SH.X5{k:Int}(hk:0≤k∧k<V.ln qs){q:List α}{g:Gh}(h:SH M X w0 (.own E T q g::.fm E T (qs.eraseIdx k.toNat)::L) w):SH M X w0 (.fm E T (cy qs k (q,g))::L) w:=by
 have DR:k.toNat<qs.length:=by unfold V.ln at hk;omega
 have h1:SH M X w0 (iQ E T (qs.eraseIdx k.toNat)++.own E T q g::L) w:=SH.unpack (h.perm (List.Perm.swap _ _ _));exact SH.pack (Ls:=iQ E T (cy qs k (q,g))) (h1.perm (List.perm_middle.trans ((X1 DR (q,g)).append_right _)))
theorem SH.X6{rs:List (Hd α)}{g:Gh}(he:qs.map (λp=>Value.slice p.2.a p.1.length p.2.c)=rs.map λp=>Value.slice p.2.a p.1.length p.2.c)(h:SH M X w0 (.own E (eH α) qs g::L) w):SH M X w0 (.own E (eH α) rs g::L) w:=by
 have hz:∀(l:List (Hd α))(s:Nat→Nat→Gh)(i:Nat),((dC l s i).map (ic (eH α))).flatten=l.map λp=>Value.slice p.2.a p.1.length p.2.c:=by
  intro l
  induction l with
  |nil=>intros;rfl
  |cons x r ih=>intro s i;simp only[dC,List.map_cons,List.flatten_cons,ih];rfl
 have hl:qs.length=rs.length:=by simpa using congrArg List.length he
 have hn:=h.nd;rw[List.pairwise_cons]at hn;refine⟨h.kp,List.pairwise_cons.2 ⟨λf hf=>hn.1 f hf,hn.2⟩,λb hb=>h.lo b hb,λb hb=>h.nm b hb,h.mx,λe DC=>?_⟩;rcases List.mem_cons.1 DC with rfl|DC
 ·have ho:gN E (eH α) (eu M (.own E (eH α) qs g::L)) w qs g:=h.ow 0 rfl;refine⟨⟨?_,ho.ow.lt,by have:=ho.ow.ln;rw[er]at this⊢;rw[←hl];exact this⟩,λi hi=>trivial⟩;have hr:=ho.ow.row;rw[er,hz]at hr⊢;rw[←hl,←he];exact hr
 ·exact h.ps e (List.mem_cons_of_mem _ DC)
end
section
variable {P:Program} {a:Act} {w:World} {n:Nat} {l:SF} {M:Av}
theorem L0{α:Type}{T:Ty α}{d:Nat}{s x:Operand}{t ty e e2:TypeId}{pos:String}{after:Array Edge}{zv:Value}{qs:List (Hd α)}{g2:Gh}{n1 n2 c1 c2:Nat}{a1 a2:Option Addr}{l2:List α}{k:Int}(hk:0≤k∧k<ln qs)(q:List α)(hq:(gi qs k).1++l2=q)(H:ay D n l a)(hS:S0 M [.fm e T qs,.own e2 T l2 g2] w)
  (hs:ev l [] s=some (.slice a1 n1 c1))(hx:ev l [] x=some (.slice a2 n2 c2))(lY:(gi qs k).2.a=a1)(iZ:(gi qs k).2.c=c1)(uq:g2.a=a2)(jD:(gi qs k).1.length=n1)(kD:l2.length=n2)
  (hu:P.underlying t=some (.slice e))(hi:(P.info? e).map (λi=>(i.size,Nat.ble i.bytes 128,i.zero))=some (T.z,true,some zv))(o9:zv.cells.size=T.z)(hz:Nat.blt 0 T.z=true)
  (hl:V.ln (gi qs k).1+V.ln l2≤1099511627776):
  bc P ⟨some d,.call ⟨.builtin .append,#[s,x],#[t,t]⟩,ty,pos,after,none⟩ a w λv w'=>∃g:Gh,v=.slice g.a q.length g.c∧SH M (aG [.fm e T qs,.own e2 T l2 g2]) w [.fm e T (cy qs k (q,g)),.own e2 T l2 g2] w':=by
 have DR:k.toNat<qs.length:=by unfold ln at hk;omega
 rw[PF hk]at hq lY iZ jD hl;have h1:SH M (aG [.fm e T qs,.own e2 T l2 g2]) w ([.own e T qs[k.toNat].1 qs[k.toNat].2,.own e2 T l2 g2]++iQ e T (qs.eraseIdx k.toNat)) w:=by
  refine(SH.unpack (Ls:=iQ e T qs) (L:=[.own e2 T l2 g2]) hS).perm ?_;refine((X0 DR).symm.append_right _).trans ?_;exact(List.perm_append_comm (l₁:=iQ e T (qs.eraseIdx k.toNat)) (l₂:=[aj.own e2 T l2 g2])).cons _
 refine(AH (P:=P) (T:=T) (d:=d) (ty:=ty) (pos:=pos) (after:=after) (zv:=zv) (g1:=qs[k.toNat].2) (g2:=g2) (l1:=qs[k.toNat].1) (l2:=l2) q hq H (SH.AM h1) hs hx lY iZ uq jD kD hu hi o9 hz hl).mono ?_;rintro v w' ⟨g,rfl,mc⟩;refine⟨g,rfl,?_⟩;have h2:=SH.AN h1 mc;refine SH.pack (Ls:=iQ e T (cy qs k (q,g))) (L:=[.own e2 T l2 g2]) (h2.perm ?_);refine List.Perm.trans ?_ ((X1 DR (q,g)).append_right [aj.own e2 T l2 g2]);exact(List.perm_append_comm (l₁:=[aj.own e2 T l2 g2]) (l₂:=iQ e T (qs.eraseIdx k.toNat))).cons _
end
end
def T(D:List Deferred)(n:Nat)(M:Av)(X:List Nat)(w0:World)(l:SF)(L:List aj)(N:dx):Prop:=
 ∀a w,ay D n l a→SH M X w0 L w→N a w
def fz:List Nat→List Value→SF
 |k::ks,v::vs=>(k,[],v)::fz ks vs
 |_,_=>[]
structure Pk(S:World→Prop) where
 v:Option Value
 p:Ob
 h:∀w,S w→p w
def fe{S:World→Prop}:List (Pk S)→List Value
 |[]=>[]
 |q::r=>match q.v with
  |some v=>v::fe r
  |none=>fe r
def ff{S:World→Prop}:List (Pk S)→List Ob
 |[]=>[]
 |q::r=>q.p::ff r
theorem uy{S:World→Prop}{w:World}(h:S w):∀q:List (Pk S),p6 (ff q) w
 |[]=>trivial
 |q::r=>⟨q.h w h,uy h r⟩
section
variable {S:World→Prop}
def kh{p:Prop}(h:p):Pk S:=⟨none,λ_=>p,λ_ _=>h⟩
def kc{P:Program}{f:FuncId}{args:Array Value}{v:Value}(h:wv P f args v):Pk S:=⟨some v,λw=>dV P f args v w,λ_ _=>h.b⟩
def kr{P:Program}{f:FuncId}{args:Array Value}{v:Value}(h:∀w,S w→dV P f args v w):Pk S:=⟨some v,λw=>dV P f args v w,h⟩
def mB(c:Prop){p:Prop}(h:c→p):Pk S:=⟨none,λ_=>c→p,λ_ _=>h⟩
def jm(c:Prop){P:Program}{f:FuncId}{args:Array Value}{v:Value}(h:c→wv P f args v):Pk S:=⟨some v,λw=>c→dV P f args v w,λ_ _ hc=>(h hc).b⟩
def gO(c:Prop){P:Program}{f:FuncId}{args:Array Value}{v:Value}(h:∀w,S w→c→dV P f args v w):Pk S:=⟨some v,λw=>c→dV P f args v w,h⟩
end
section
variable {D:List Deferred} {n:Nat} {M:Av} {X:List Nat} {w0:World} {l:SF} {L:List aj} {N R:dx} {ES:List (Nat×dx)} {P:Program} {Q:Exit→Act→World→Prop} {all:List Oper} {id:Nat}
def kb(k o:Nat){b:Nat}{cs:List Value}{v:Value}(hk:L[k]?=some (.cq b cs):=by rfl)(hv:cs[o]?=some v:=by rfl):Pk (SH M X w0 L):=⟨some v,aQ ⟨b,o,none⟩ v,λ_ h=>(h.bk k hk).aQ hv⟩
def ko(k o:Nat){b:Nat}{cs:List Value}{v:Value}(hk:L[k]?=some (.ro b cs):=by rfl)(hv:cs[o]?=some v:=by rfl):Pk (SH M X w0 L):=⟨some v,aQ ⟨b,o,none⟩ v,λ_ h=>(h.ro k hk).aQ hv⟩
def kE(k n:Nat){b:Nat}{cs:List Value}(hk:L[k]?=some (.cq b cs):=by rfl):Pk (SH M X w0 L):=⟨some (.agg ⟨cs.take n⟩),cG b 0 (cs.take n) 0,λ_ h=>(h.bk k hk).jF (by simp[List.length_take,List.take_eq_take_iff])⟩
theorem ba{a:Act}{w:World}(H:ay D n l a)(hS:SH M X w0 L w)(h:T D n M X w0 l L N):N a w:=h a w H hS
theorem cV{y:Code}(ks:List Nat)(vs:List Value)(q:List (Pk (SH M X w0 L)))(h:T D n M X w0 (fz ks vs) L λa w=>y.wp P (Qs N ES R) a w)
  (he:gY P n all (fe q) l ks=some (fz ks vs,ff q):=by kernel_rfl):T D n M X w0 l L λa w=>(Code.seq (.region id all.toArray false) y).wp P (Qs N ES R) a w:=
 λ_ _ H hS=>kT (fe q) ks _ (ff q) H he (uy hS q) λ_ _ H' hb=>h _ _ H' (hS.below hb)
theorem qh(ks:List Nat)(vs:List Value)(q:List (Pk (SH M X w0 L)))(h:T D n M X w0 (fz ks vs) L N)
  (he:gY P n all (fe q) l ks=some (fz ks vs,ff q):=by kernel_rfl):T D n M X w0 l L λa w=>(Code.region id all.toArray false).wp P (Qs N ES R) a w:=
 λ_ _ H hS=>OW (fe q) ks _ (ff q) H he (uy hS q) λ_ _ H' hb=>h _ _ H' (hS.below hb)
theorem kX{y:Code}(ks:List Nat)(vs:List Value)(q:List (Pk (SH M X w0 L)))(h:T D n M X w0 (fz ks vs) L λa w=>y.wp P (Qs N ES R) a w)
  (he:gY P n all (fe q) l ks=some (fz ks vs,ff q):=by kernel_rfl)(hm:P.follows .mixedOrders=true:=by kernel_rfl)(hB:Region.lexB .any all.toArray=true:=by kernel_rfl):T D n M X w0 l L λa w=>(Code.seq (.region id all.toArray true) y).wp P (Qs N ES R) a w:=
 λ_ _ H hS=>a3Z (fe q) ks _ (ff q) H hm hB he (uy hS q) λ_ _ H' hb=>h _ _ H' (hS.below hb)
theorem X7(ks:List Nat)(vs:List Value)(q:List (Pk (SH M X w0 L)))(h:T D n M X w0 (fz ks vs) L N)
  (he:gY P n all (fe q) l ks=some (fz ks vs,ff q):=by kernel_rfl)(hm:P.follows .mixedOrders=true:=by kernel_rfl)(hB:Region.lexB .any all.toArray=true:=by kernel_rfl):T D n M X w0 l L λa w=>(Code.region id all.toArray true).wp P (Qs N ES R) a w:=
 λ_ _ H hS=>VY (fe q) ks _ (ff q) H hm hB he (uy hS q) λ_ _ H' hb=>h _ _ H' (hS.below hb)
theorem fB{i:Nat}(j:Nat)(ks:List Nat)(vs:List Value)(q:List (Pk (SH M X w0 L)))(h:T D n M X w0 (fz ks vs) L λa w=>wpList P all.toArray Q (all.drop j) a w)
  (he:Dr P n all i j (fe q) l ks=some (fz ks vs,ff q):=by kernel_rfl)(cY:Nat.ble i j=true:=by rfl):T D n M X w0 l L λa w=>wpList P all.toArray Q (all.drop i) a w:=
 λ_ _ H hS=>kV i j (fe q) ks _ (ff q) H cY he (uy hS q) λ_ _ H' hb=>h _ _ H' (hS.below hb)
theorem cJ(h:T D n M X w0 l L λa w=>wpList P all.toArray (Qs N ES R) (all.drop 0) a w):T D n M X w0 l L λa w=>(Code.region id all.toArray false).wp P (Qs N ES R) a w:=
 λ_ _ H hS=>AA (h _ _ H hS)
theorem aH{y:Code}(h:T D n M X w0 l L λa w=>wpList P all.toArray (Qs (λa w=>y.wp P (Qs N ES R) a w) ES R) (all.drop 0) a w):T D n M X w0 l L λa w=>(Code.seq (.region id all.toArray false) y).wp P (Qs N ES R) a w:=
 λ_ _ H hS=>p7 (AA (h _ _ H hS))
theorem aw{i:Nat}(h:T D n M X w0 l L N)(hi:Nat.ble all.length i=true:=by rfl):T D n M X w0 l L λa w=>wpList P all.toArray (Qs N ES R) (all.drop i) a w:=
 λ_ _ H hS=>Dq hi (h _ _ H hS)
theorem aE{x y:Code}(h:T D n M X w0 l L λa w=>x.wp P (Qs (λa w=>y.wp P (Qs N ES R) a w) ES R) a w):T D n M X w0 l L λa w=>(Code.seq x y).wp P (Qs N ES R) a w:=
 λ_ _ H hS=>p7 (h _ _ H hS)
theorem aA(h:T D n M X w0 l L N):T D n M X w0 l L λa w=>Code.skip.wp P (Qs N ES R) a w:=λ_ _ H hS=>OV (h _ _ H hS)
theorem aX{i:Nat}{c:Code}(h:T D n M X w0 l L λa w=>c.wp P (Qs N ((i,N)::ES) R) a w):T D n M X w0 l L λa w=>(Code.block i c).wp P (Qs N ES R) a w:=λ_ _ H hS=>a3Y (h _ _ H hS)
theorem a52{c:Code}(h:T D n M X w0 l L λa w=>c.wp P (Qs N ES R) a w):T D n M X w0 l L λa w=>(Code.scope c).wp P (Qs N ES R) a w:=λ_ _ H hS=>a4v (h _ _ H hS)
theorem a54{i:Nat}(h:T D n M X w0 l L N):T D n M X w0 l L λa w=>(Code.label i).wp P (Qs N ES R) a w:=λ_ _ H hS=>a4w (h _ _ H hS)
theorem aJ(h:T D n M X w0 l L R):T D n M X w0 l L λa w=>Code.ret.wp P (Qs N ES R) a w:=λ_ _ H hS=>Ay (h _ _ H hS)
theorem bZ{i:Nat}{E:dx}(h:T D n M X w0 l L E)(hi:Ax ES i=some E:=by rfl):T D n M X w0 l L λa w=>(Code.exit i).wp P (Qs N ES R) a w:=λ_ _ H hS=>a3X hi (h _ _ H hS)
theorem jG{c:Operand}{x y:Code}{t:Bool}(h1:t=true→T D n M X w0 l L λa w=>x.wp P (Qs N ES R) a w)(h2:t=false→T D n M X w0 l L λa w=>y.wp P (Qs N ES R) a w)(hc:ev l [] c=some (.bool t):=by rfl):
  T D n M X w0 l L λa w=>(Code.cond c x y).wp P (Qs N ES R) a w:=λ_ _ H hS=>yE H hc (λh=>h1 h _ _ H hS) (λh=>h2 h _ _ H hS)
theorem lC{α:Type}{c:Operand}{x y:Code}{t:Bool}{p q r:α}(hm:cond t p q=r)(h1:p=r→T D n M X w0 l L λa w=>x.wp P (Qs N ES R) a w)(h2:q=r→T D n M X w0 l L λa w=>y.wp P (Qs N ES R) a w)(hc:ev l [] c=some (.bool t):=by rfl):
  T D n M X w0 l L λa w=>(Code.cond c x y).wp P (Qs N ES R) a w:=λ_ _ H hS=>yE H hc (λh=>h1 (bT h hm) _ _ H hS) (λh=>h2 (bF h hm) _ _ H hS)
theorem a55{α:Type}{c:Operand}{x y:Code}{t:Bool}{q:Option α}{r:α}(hm:cond t none q=some r)(h2:q=some r→T D n M X w0 l L λa w=>y.wp P (Qs N ES R) a w)(hc:ev l [] c=some (.bool t):=by rfl):
  T D n M X w0 l L λa w=>(Code.cond c x y).wp P (Qs N ES R) a w:=lC hm (λh=>kU h) h2 hc
theorem aR(ks:List Nat)(h:T D n M X w0 l (dn L ks) N)(hk:ie L ks=true:=by rfl):T D n M X w0 l L N:=λ_ _ H hS=>h _ _ H (hS.bx ks hk)
theorem t_L(L':List aj)(h:T D n M X w0 l L' N)(hL:L=L':=by rfl):T D n M X w0 l L N:=by subst hL;exact h
theorem fZ{α:Type}(E:TypeId)(Y:Ty α)(h:T D n M X w0 l (.own E Y ([]:List α) .nil::L) N):T D n M X w0 l L N:=λ_ _ H hS=>h _ _ H (hS.KM E Y)
theorem sS{α:Type}{E:TypeId}{Y:Ty α}{q:List α}{g:Gh}(ks:List Nat)(h:T D n M X w0 l (.im Y q g::(dn L ks).tail) N)(hL:dn L ks=.own E Y q g::(dn L ks).tail:=by rfl)(hk:ie L ks=true:=by rfl):T D n M X w0 l L N:=
 λ_ _ H hS=>h _ _ H (SH.Wg (by rw[←hL];exact hS.bx ks hk))
def Cu(D:List Deferred)(n:Nat)(M:Av)(X:List Nat)(w0:World)(l:SF)(L:List aj):dx:=λa w=>ay D n l a∧SH M X w0 L w
theorem GH{x y:Code}(ks:List Nat)(vs:List Value)(L':List aj)(h:T D n M X w0 l L λa w=>x.wp P (Qs (Cu D n M X w0 (fz ks vs) L') ES R) a w)(h2:T D n M X w0 (fz ks vs) L' λa w=>y.wp P (Qs N ES R) a w):
  T D n M X w0 l L λa w=>(Code.seq x y).wp P (Qs N ES R) a w:=λ_ _ H hS=>kF _ (h _ _ H hS) λa w h=>h2 a w h.1 h.2
theorem wL{l':SF}{L':List aj}(ks:List Nat)(hl:aV l ks=some l':=by kernel_rfl)(hL:L=L':=by rfl):T D n M X w0 l L (Cu D n M X w0 l' L'):=λ_ _ H hS=>⟨ay.aV H hl,by subst hL;exact hS⟩
def Cg{γ:Type}(D:List Deferred)(n:Nat)(M:Av)(X:List Nat)(w0:World)(l:γ→SF)(L:γ→List aj):dx:=λa w=>∃g,ay D n (l g) a∧SH M X w0 (L g) w
theorem a56{γ:Type}{x y:Code}(ks:List Nat)(vs:γ→List Value)(L':γ→List aj)(h:T D n M X w0 l L λa w=>x.wp P (Qs (Cg D n M X w0 (λg=>fz ks (vs g)) L') ES R) a w)(h2:∀g,T D n M X w0 (fz ks (vs g)) (L' g) λa w=>y.wp P (Qs N ES R) a w):
  T D n M X w0 l L λa w=>(Code.seq x y).wp P (Qs N ES R) a w:=λ_ _ H hS=>kF _ (h _ _ H hS) λa w ⟨g,h⟩=>h2 g a w h.1 h.2
theorem a57{γ:Type}{l':γ→SF}{L':γ→List aj}(g:γ)(ks:List Nat)(hl:aV l ks=some (l' g):=by kernel_rfl)(hL:L=L' g:=by rfl):T D n M X w0 l L (Cg D n M X w0 l' L'):=λ_ _ H hS=>⟨g,ay.aV H hl,by rw[←hL];exact hS⟩
theorem fC{γ:Type}{i d:Nat}{o:Oper}{F:γ→Value}{E:γ→List aj}(kt rt ks:List Nat)(vs:List Value)
  (hs:∀a w,ay D n l a→S0 (eu M (dn L rt)) (dn L kt) w→bc P o a w λv w'=>∃g,v=F g∧SH (eu M (dn L rt)) (aG (dn L kt)) w (E g) w')
  (h:∀g,T D n M X w0 ((d,[],F g)::fz ks vs) (E g++dn L rt) λa w=>wpList P all.toArray Q (all.drop (i+1)) a w)
  (ho:all[i]?=some o:=by rfl)(hg:o.guard=none:=by rfl)(og:o.dst=some d:=by rfl)(hd:Nat.blt d n=true:=by rfl)(hk:∀v,aV (jC l d [] v) (d::ks)=some ((d,[],v)::fz ks vs):=by intro v;kernel_rfl)
  (h1:ie L kt=true:=by rfl)(h2:pf L rt kt=true:=by rfl)(h3:ie L rt=true:=by rfl):T D n M X w0 l L λa w=>wpList P all.toArray Q (all.drop i) a w:=
 λ_ w H hS=>lA (d::ks) _ H ho hg og hd (hs _ w H (hS.hand kt rt h1 h2)) hk λ_ _ _ H' ⟨g,e,hq⟩=>h g _ _ (e▸H') (hS.join kt rt h3 h2 hq)
theorem gP{i d:Nat}{o:Oper}{v:Value}{E:List aj}(kt rt ks:List Nat)(vs:List Value)
  (hs:∀a w,ay D n l a→S0 (eu M (dn L rt)) (dn L kt) w→bc P o a w λu w'=>u=v∧SH (eu M (dn L rt)) (aG (dn L kt)) w E w')
  (h:T D n M X w0 ((d,[],v)::fz ks vs) (E++dn L rt) λa w=>wpList P all.toArray Q (all.drop (i+1)) a w)
  (ho:all[i]?=some o:=by rfl)(hg:o.guard=none:=by rfl)(og:o.dst=some d:=by rfl)(hd:Nat.blt d n=true:=by rfl)(hk:∀v,aV (jC l d [] v) (d::ks)=some ((d,[],v)::fz ks vs):=by intro v;kernel_rfl)
  (h1:ie L kt=true:=by rfl)(h2:pf L rt kt=true:=by rfl)(h3:ie L rt=true:=by rfl):T D n M X w0 l L λa w=>wpList P all.toArray Q (all.drop i) a w:=
 λ_ w H hS=>lA (d::ks) _ H ho hg og hd (hs _ w H (hS.hand kt rt h1 h2)) hk λ_ _ _ H' ⟨e,hq⟩=>h _ _ (e▸H') (hS.join kt rt h3 h2 hq)
theorem qi{i:Nat}{o:Oper}{E:List aj}(kt rt ks:List Nat)(vs:List Value)
  (hs:∀a w,ay D n l a→S0 (eu M (dn L rt)) (dn L kt) w→bc P o a w λ_ w'=>SH (eu M (dn L rt)) (aG (dn L kt)) w E w')
  (h:T D n M X w0 (fz ks vs) (E++dn L rt) λa w=>wpList P all.toArray Q (all.drop (i+1)) a w)
  (ho:all[i]?=some o:=by rfl)(hg:o.guard=none:=by rfl)(og:o.dst=none:=by rfl)(hk:aV l ks=some (fz ks vs):=by rfl)
  (h1:ie L kt=true:=by rfl)(h2:pf L rt kt=true:=by rfl)(h3:ie L rt=true:=by rfl):T D n M X w0 l L λa w=>wpList P all.toArray Q (all.drop i) a w:=
 λ_ w H hS=>nC ks _ H ho hg og (hs _ w H (hS.hand kt rt h1 h2)) hk λ_ _ H' ⟨_,hq⟩=>h _ _ H' (hS.join kt rt h3 h2 hq)
end
section
variable {D:List Deferred} {n:Nat} {M:Av} {X:List Nat} {w0:World} {l:SF} {L:List aj} {N R:dx} {ES:List (Nat×dx)} {P:Program} {Q:Exit→Act→World→Prop} {all:List Oper} {id:Nat}
end
def DS(all:List Oper)(vs:List Value)(i:Nat):List Nat→SF
 |[]=>[]
 |j::r=>match Nat.beq j i,eo all j with
  |false,some d=>(d,[],vs.getD j undef)::DS all vs i r
  |_,_=>DS all vs i r
theorem X8{D:List Deferred}{n:Nat}{base:SF}{all:List Oper}{vs:List Value}{i:Nat}{a:Act}(H:ay D n base a):∀l:List Nat,(∀j∈l,j≠i→∀d,eo all j=some d→a.tmps[d]?=some (vs.getD j undef))→ay D n (DS all vs i l++base) a
 |[],_=>H
 |j::r,h=>by
  have ih:=X8 H r λk hk=>h k (List.mem_cons_of_mem _ hk);unfold DS;split
  ·rename_i d hj hd;exact ih.add (h j List.mem_cons_self (Nat.ne_of_beq_eq_false hj) d hd)
  ·exact ih
section
variable {P:Program} {n N:Nat} {base:SF} {all:List Oper} {c9:Gm→List Value} {ress:Gm→List (List aj)} {use cons cE:List (List Nat)} {fk:List (Nat×Nat×Value)} {L:List aj} {i j:Nat}
theorem lh(h:∀y,(c9 y).getD j undef=(c9 (AU (cE.getD j []) y)).getD j undef∧(ress y).getD j []=(ress (AU (cE.getD j []) y)).getD j []:=by exact λ_=>⟨rfl,rfl⟩):
  ∀(y:Gm)(i:Nat)(g:Nat→Gh),i∉cE.getD j []→(c9 (dQ y i g)).getD j undef=(c9 y).getD j undef∧(ress (dQ y i g)).getD j []=(ress y).getD j []:=by
 intro y i g hi;have e:AU (cE.getD j []) (dQ y i g)=AU (cE.getD j []) y:=by
  funext k;unfold AU;cases hb:ig (cE.getD j []) k with
  |false=>rfl
  |true=>simp only[cond_true];exact a4X hi hb
 rw[(h (dQ y i g)).1,(h (dQ y i g)).2,e,←(h y).1,←(h y).2];exact⟨rfl,rfl⟩
def PH(c9:Gm→List Value)(ress:Gm→List (List aj))(cE:List (List Nat))(j:Nat):Prop:=∀y,(c9 y).getD j undef=(c9 (AU (cE.getD j []) y)).getD j undef∧(ress y).getD j []=(ress (AU (cE.getD j []) y)).getD j []
theorem X9(h:fY N 0 (PH c9 ress cE)):fY N 0 λj=>∀(y:Gm)(i:Nat)(g:Nat→Gh),i∉cE.getD j []→(c9 (dQ y i g)).getD j undef=(c9 y).getD j undef∧(ress (dQ y i g)).getD j []=(ress y).getD j []:=
 fY.imp (λ_ h=>lh h) h
def obH:List Ob→Option Ob
 |[]=>none
 |o::_=>some o
theorem se(q:∀(y:Gm)(M':Av),List (Pk λw=>S0 M' (cZ N ress L y (use.getD i [])) w))
  (he:∀(y:Gm)(M':Av),(all[i]?).bind (λo=>At P (DS all (c9 y) i (cE.getD i [])++base) [] o.op (fe (q y M')))=some ⟨(c9 (dQ y i (gL []))).getD i undef,[],obH (ff (q y M'))⟩:=by intros;kernel_rfl)
  (hr:∀y,(ress y).getD i []=[]:=by exact λ_=>rfl)(hc:((use.getD i []).filter λj=>!(ig (cons.getD i []) j))=use.getD i []:=by rfl):
  ∀o,all[i]?=some o→∀a' w' y M',ay [] n base a'→(∀j∈cE.getD i [],j≠i→∀d,eo all j=some d→a'.tmps[d]?=some ((c9 y).getD j undef))→(∀(k:Nat) e,fk[k]?=some e→(Nat.beq e.2.1 i||reach all N e.2.1 i)=true→a'.tmps[e.1]?=some e.2.2)→S0 M' (cZ N ress L y (use.getD i [])) w'→
   bc P (yO o) a' w' λv w2=>∃g:Nat→Gh,(∀d,eo all i=some d→v=(c9 (dQ y i g)).getD i undef)∧SH M' (aG (cZ N ress L y (use.getD i []))) w' ((ress (dQ y i g)).getD i []++cZ N ress L y ((use.getD i []).filter λj=>!(ig (cons.getD i []) j))) w2:=by
 intro o ho a' w' y M' Hb hv _ hS;have h:=he y M';rw[ho,Option.bind_some]at h;obtain⟨d,op,ty,pos,after,gd⟩:=o;refine bc.mono (Gw (o:=⟨d,op,ty,pos,after,none⟩) (fe (q y M')) _ _ [] (X8 Hb _ hv) rfl h λob e=>?_) λv w2 hq=>⟨gL [],λ_ _=>hq.1,?_⟩
 ·have h1:=uy hS (q y M');cases hp:ff (q y M')with
  |nil=>rw[hp]at e;cases e
  |cons x r=>rw[hp]at e h1;cases e;exact h1.1
 ·rw[hr,hc,List.nil_append];exact hS.below hq.2.below
theorem aN(he:∀(y:Gm),(all[i]?).bind (λo=>At P (DS all (c9 y) i (cE.getD i [])++base) [] o.op [])=some ⟨(c9 (dQ y i (gL []))).getD i undef,[],none⟩:=by intros;kernel_rfl)
  (hr:∀y,(ress y).getD i []=[]:=by exact λ_=>rfl)(hc:((use.getD i []).filter λj=>!(ig (cons.getD i []) j))=use.getD i []:=by rfl):
  ∀o,all[i]?=some o→∀a' w' y M',ay [] n base a'→(∀j∈cE.getD i [],j≠i→∀d,eo all j=some d→a'.tmps[d]?=some ((c9 y).getD j undef))→(∀(k:Nat) e,fk[k]?=some e→(Nat.beq e.2.1 i||reach all N e.2.1 i)=true→a'.tmps[e.1]?=some e.2.2)→S0 M' (cZ N ress L y (use.getD i [])) w'→
   bc P (yO o) a' w' λv w2=>∃g:Nat→Gh,(∀d,eo all i=some d→v=(c9 (dQ y i g)).getD i undef)∧SH M' (aG (cZ N ress L y (use.getD i []))) w' ((ress (dQ y i g)).getD i []++cZ N ress L y ((use.getD i []).filter λj=>!(ig (cons.getD i []) j))) w2:=
 se (λ_ _=>[]) (λy _=>he y) hr hc
end
theorem lD{P:Program}{n id:Nat}{all:List Oper}{a:Act}{w wE:World}{base:SF}{M:Av}{X:List Nat}{L:List aj}{N' R':dx}{ES:List (Nat×dx)}(N m:Nat)(c9:Gm→List Value)(ress:Gm→List (List aj))(use cons cE:List (List Nat))(fk:List (Nat×Nat×Value))
  (H:ay [] n base a)(hold:∀(k:Nat) e,fk[k]?=some e→a.tmps[e.1]?=some e.2.2)(qe:DL N all fk=true)(hS:SH M X wE L w)(hm:P.follows .mixedOrders=true)(hN:all.length=N)(hL:L.length=m)(bQ:sP n base all=true)(iY:Dv all=true)(sQ:DK N m all use cons cE=true)(wJ:fY N 0 λi=>us all c9 cE i ((all[i]?).bind (·.guard)))
  (wK:fY N 0 λi=>∀o,all[i]?=some o→∀a' w' y M',ay [] n base a'→(∀j∈cE.getD i [],j≠i→∀d,eo all j=some d→a'.tmps[d]?=some ((c9 y).getD j undef))→(∀(k:Nat) e,fk[k]?=some e→(Nat.beq e.2.1 i||reach all N e.2.1 i)=true→a'.tmps[e.1]?=some e.2.2)→S0 M' (cZ N ress L y (use.getD i [])) w'→
   bc P (yO o) a' w' λv w2=>∃g:Nat→Gh,(∀d,eo all i=some d→v=(c9 (dQ y i g)).getD i undef)∧SH M' (aG (cZ N ress L y (use.getD i []))) w' ((ress (dQ y i g)).getD i []++cZ N ress L y ((use.getD i []).filter λj=>!(ig (cons.getD i []) j))) w2)
  (hK:∀a' w' y,ay [] n base a'→(∀i d,eo all i=some d→a'.tmps[d]?=some ((c9 y).getD i undef))→SH M X wE (cZ N ress L y (yN N m cons)) w'→N' a' w')(hl:fY N 0 (PH c9 ress cE):=by repeat (first|exact trivial|refine And.intro (λ_=>⟨rfl,rfl⟩) ?_)):(Code.region id all.toArray true).wp P (Qs N' ES R') a w:=
 WX N m c9 ress use cons cE fk H hold qe hS hm hN hL bQ iY sQ wJ (X9 hl) wK hK
theorem me{P:Program}{n id:Nat}{all:List Oper}{a:Act}{w wE:World}{base:SF}{M:Av}{X:List Nat}{L:List aj}{N' R':dx}{ES:List (Nat×dx)}{z:Code}(N m:Nat)(c9:Gm→List Value)(ress:Gm→List (List aj))(use cons cE:List (List Nat))(fk:List (Nat×Nat×Value))
  (H:ay [] n base a)(hold:∀(k:Nat) e,fk[k]?=some e→a.tmps[e.1]?=some e.2.2)(qe:DL N all fk=true)(hS:SH M X wE L w)(hm:P.follows .mixedOrders=true)(hN:all.length=N)(hL:L.length=m)(bQ:sP n base all=true)(iY:Dv all=true)(sQ:DK N m all use cons cE=true)(wJ:fY N 0 λi=>us all c9 cE i ((all[i]?).bind (·.guard)))
  (wK:fY N 0 λi=>∀o,all[i]?=some o→∀a' w' y M',ay [] n base a'→(∀j∈cE.getD i [],j≠i→∀d,eo all j=some d→a'.tmps[d]?=some ((c9 y).getD j undef))→(∀(k:Nat) e,fk[k]?=some e→(Nat.beq e.2.1 i||reach all N e.2.1 i)=true→a'.tmps[e.1]?=some e.2.2)→S0 M' (cZ N ress L y (use.getD i [])) w'→
   bc P (yO o) a' w' λv w2=>∃g:Nat→Gh,(∀d,eo all i=some d→v=(c9 (dQ y i g)).getD i undef)∧SH M' (aG (cZ N ress L y (use.getD i []))) w' ((ress (dQ y i g)).getD i []++cZ N ress L y ((use.getD i []).filter λj=>!(ig (cons.getD i []) j))) w2)
  (hK:∀a' w' y,ay [] n base a'→(∀i d,eo all i=some d→a'.tmps[d]?=some ((c9 y).getD i undef))→SH M X wE (cZ N ress L y (yN N m cons)) w'→z.wp P (Qs N' ES R') a' w')(hl:fY N 0 (PH c9 ress cE):=by repeat (first|exact trivial|refine And.intro (λ_=>⟨rfl,rfl⟩) ?_)):(Code.seq (.region id all.toArray true) z).wp P (Qs N' ES R') a w:=
 a4Y N m c9 ress use cons cE fk H hold qe hS hm hN hL bQ iY sQ wJ (X9 hl) wK hK
section
variable {M:Av} {X:List Nat} {w0:World} {L:List aj}
def ki(k:Nat){α:Type}{Y:Ty α}{q:List α}{g:Gh}{ix:Int}(h:0≤ix∧ix<ln q)(hk:L[k]?=some (.im Y q g):=by rfl):Pk (SH M X w0 L):=⟨none,λ_=>cK g.a∧0≤ix∧ix<ln q,λ_ hS=>(hS.im k hk).ib h⟩
def kj(k j:Nat){α:Type}[Inhabited α]{Y:Ty α}{q:List α}{g:Gh}{ix:Int}{v:Value}(h:0≤ix∧ix<ln q)(hk:L[k]?=some (.im Y q g):=by rfl)(hv:(Y.enc (gi q ix) (g.s ix.toNat))[j]?=some v:=by rfl):Pk (SH M X w0 L):=⟨some v,aQ ⟨ab g.a,ao g.a+ix.toNat*Y.z+j,none⟩ v,λ_ hS=>(hS.im k hk).aQ h j hv⟩
def kI(k:Nat){α:Type}{E:TypeId}{Y:Ty α}{q:List α}{g:Gh}{ix:Int}(h:0≤ix∧ix<ln q)(hk:L[k]?=some (.own E Y q g):=by rfl):Pk (SH M X w0 L):=⟨none,λ_=>cK g.a∧0≤ix∧ix<ln q,λ_ hS=>(hS.cd k hk).ib h⟩
def kJ(k j:Nat){α:Type}[Inhabited α]{E:TypeId}{Y:Ty α}{q:List α}{g:Gh}{ix:Int}{v:Value}(h:0≤ix∧ix<ln q)(hk:L[k]?=some (.own E Y q g):=by rfl)(hv:(Y.enc (gi q ix) (g.s ix.toNat))[j]?=some v:=by rfl):Pk (SH M X w0 L):=⟨some v,aQ ⟨ab g.a,ao g.a+ix.toNat*Y.z+j,none⟩ v,λ_ hS=>(hS.cd k hk).aQ h j hv⟩
def kY(c:Prop)(k:Nat){α:Type}{Y:Ty α}{q:List α}{g:Gh}{ix:Int}(h:c→0≤ix∧ix<ln q)(hk:L[k]?=some (.im Y q g):=by rfl):Pk (SH M X w0 L):=⟨none,λ_=>c→cK g.a∧0≤ix∧ix<ln q,λ_ hS hc=>(hS.im k hk).ib (h hc)⟩
def ru(c:Prop)(k j:Nat){α:Type}[Inhabited α]{Y:Ty α}{q:List α}{g:Gh}{ix:Int}{v:Value}(h:c→0≤ix∧ix<ln q)(hk:L[k]?=some (.im Y q g):=by rfl)(hv:(Y.enc (gi q ix) (g.s ix.toNat))[j]?=some v:=by rfl):Pk (SH M X w0 L):=⟨some v,λw=>c→aQ ⟨ab g.a,ao g.a+ix.toNat*Y.z+j,none⟩ v w,λ_ hS hc=>(hS.im k hk).aQ (h hc) j hv⟩
def kgI(c:Prop)(k:Nat){α:Type}{E:TypeId}{Y:Ty α}{q:List α}{g:Gh}{ix:Int}(h:c→0≤ix∧ix<ln q)(hk:L[k]?=some (.own E Y q g):=by rfl):Pk (SH M X w0 L):=⟨none,λ_=>c→cK g.a∧0≤ix∧ix<ln q,λ_ hS hc=>(hS.cd k hk).ib (h hc)⟩
def kgJ(c:Prop)(k j:Nat){α:Type}[Inhabited α]{E:TypeId}{Y:Ty α}{q:List α}{g:Gh}{ix:Int}{v:Value}(h:c→0≤ix∧ix<ln q)(hk:L[k]?=some (.own E Y q g):=by rfl)(hv:(Y.enc (gi q ix) (g.s ix.toNat))[j]?=some v:=by rfl):Pk (SH M X w0 L):=⟨some v,λw=>c→aQ ⟨ab g.a,ao g.a+ix.toNat*Y.z+j,none⟩ v w,λ_ hS hc=>(hS.cd k hk).aQ (h hc) j hv⟩
def dv(c:Prop)(k o:Nat){b:Nat}{cs:List Value}{v:Value}(hk:L[k]?=some (.cq b cs):=by rfl)(hv:cs[o]?=some v:=by rfl):Pk (SH M X w0 L):=⟨some v,λw=>c→aQ ⟨b,o,none⟩ v w,λ_ h _=>(h.bk k hk).aQ hv⟩
def kgo(c:Prop)(k o:Nat){b:Nat}{cs:List Value}{v:Value}(hk:L[k]?=some (.ro b cs):=by rfl)(hv:cs[o]?=some v:=by rfl):Pk (SH M X w0 L):=⟨some v,λw=>c→aQ ⟨b,o,none⟩ v w,λ_ h _=>(h.ro k hk).aQ hv⟩
end
section
variable {n:Nat} {M:Av} {X:List Nat} {w0:World} {l:SF} {L:List aj} {P:Program} {f:FuncId} {fn:Func} {c:Code} {args:List Value}
def Pn(v:Value)(E:List aj)(M:Av)(X:List Nat)(w:World):Ending→World→Prop:=λe w'=>∃u,e=.returned u∧u=v∧SH M X w E w'
def Pm{γ:Type}(F:γ→Value)(E:γ→List aj)(M:Av)(X:List Nat)(w:World):Ending→World→Prop:=λe w'=>∃u,e=.returned u∧∃g,u=F g∧SH M X w (E g) w'
def GI{γ:Type}(P:Program)(f:FuncId)(args:Array Value)(L:List aj)(F:γ→Value)(E:γ→List aj):Prop:=∀(M:Av)(w:World),S0 M L w→kW P f args w λv w'=>∃g,v=F g∧SH M (aG L) w (E g) w'
def qj(P:Program)(f:FuncId)(args:Array Value)(L:List aj)(v:Value)(E:List aj):Prop:=∀(M:Av)(w:World),S0 M L w→kW P f args w λu w'=>u=v∧SH M (aG L) w E w'
theorem GJ{γ:Type}{i d:Nat}{x:Operand}{ar:Array Operand}{ns:Array TypeId}{ty:TypeId}{pos:String}{after:Array Edge}{f:FuncId}{av first GK o5:List Value}{F:γ→Value}{E:γ→List aj}{L':List aj}{D:List Deferred}{all:List Oper}{N:Exit→Act→World→Prop}(kt rt ks:List Nat)(vs:List Value)(hc:GI P f ⟨av⟩ L' F E)
  (h:∀g,T D n M X w0 ((d,[],F g)::fz ks vs) (E g++dn L rt) λa w=>wpList P all.toArray N (all.drop (i+1)) a w)
  (ho:all[i]?=some ⟨some d,.call ⟨.value x,ar,ns⟩,ty,pos,after,none⟩:=by rfl)(hx:callee l [] x=some (f,first,o5):=by rfl)(ha:lq l [] ar.toList=some GK:=by rfl)(hv:first++GK++o5=av:=by rfl)(hL:dn L kt=L':=by rfl)
  (hd:Nat.blt d n=true:=by rfl)(hk:∀v,aV (jC l d [] v) (d::ks)=some ((d,[],v)::fz ks vs):=by intro v;kernel_rfl)
  (h1:ie L kt=true:=by rfl)(h2:pf L rt kt=true:=by rfl)(h3:ie L rt=true:=by rfl):T D n M X w0 l L λa w=>wpList P all.toArray N (all.drop i) a w:=by
 subst hv hL;exact fC kt rt ks vs (λ_ _ H hS=>cN H hx ha (hc _ _ hS)) h ho rfl rfl hd hk h1 h2 h3
theorem cH{v:Value}(hc:∀w,(callFunc f ⟨args⟩).run P w=.ok (.enter f ⟨args⟩) w)(hf:P.funcs[f]?=some fn)(hn:fn.ntmps=n)
  (h:∀(M:Av)(X:List Nat)(w:World),T [] n M X w (wx args 0) [] λa w'=>c.wp P (Qs (Rp P fn (Pn v [] M X w)) [] (Rp P fn (Pn v [] M X w))) a w')(hb:fn.body=some c:=by rfl)(hl:Nat.ble args.length n=true:=by rfl):wv P f ⟨args⟩ v:=
 Pb hc λw hS=>lz hf hb hn hl λ_ H=>h F0 (aG []) w _ _ H hS
theorem fx{v:Value}{w:World}(hL:S0 F0 L w∧aG L=[])(hc:∀w,(callFunc f ⟨args⟩).run P w=.ok (.enter f ⟨args⟩) w)(hf:P.funcs[f]?=some fn)(hn:fn.ntmps=n)
  (h:∀(M:Av)(X:List Nat)(w:World),T [] n M X w (wx args 0) L λa w'=>c.wp P (Qs (Rp P fn (Pn v [] M X w)) [] (Rp P fn (Pn v [] M X w))) a w')(hb:fn.body=some c:=by rfl)(hl:Nat.ble args.length n=true:=by rfl):dV P f ⟨args⟩ v w:=
 sN hL hc λw hS=>lz hf hb hn hl λ_ H=>h F0 (aG L) w _ _ H hS
theorem ik{γ:Type}{F:γ→Value}{E:γ→List aj}(hc:∀w,(callFunc f ⟨args⟩).run P w=.ok (.enter f ⟨args⟩) w)(hf:P.funcs[f]?=some fn)(hn:fn.ntmps=n)
  (h:∀(M:Av)(X:List Nat)(w:World),T [] n M X w (wx args 0) L λa w'=>c.wp P (Qs (Rp P fn (Pm F E M X w)) [] (Rp P fn (Pm F E M X w))) a w')(hb:fn.body=some c:=by rfl)(hl:Nat.ble args.length n=true:=by rfl):GI P f ⟨args⟩ L F E:=
 λM w hS=>⟨hc,lz hf hb hn hl λ_ H=>h M (aG L) w _ _ H hS⟩
theorem ry{v:Value}{E:List aj}(hc:∀w,(callFunc f ⟨args⟩).run P w=.ok (.enter f ⟨args⟩) w)(hf:P.funcs[f]?=some fn)(hn:fn.ntmps=n)
  (h:∀(M:Av)(X:List Nat)(w:World),T [] n M X w (wx args 0) L λa w'=>c.wp P (Qs (Rp P fn (Pn v E M X w)) [] (Rp P fn (Pn v E M X w))) a w')(hb:fn.body=some c:=by rfl)(hl:Nat.ble args.length n=true:=by rfl):qj P f ⟨args⟩ L v E:=
 λM w hS=>⟨hc,lz hf hb hn hl λ_ H=>h M (aG L) w _ _ H hS⟩
def Rs(P:Program)(fn:Func)(l:SF)(L:List aj)(v:Value):Prop:=∀n M X w0 a w (R:Ending→World→Prop),ay [] n l a→SH M X w0 L w→R (.returned v) w→Rp P fn R a w
theorem aU{E:List aj}{v:Value}(ks:List Nat)(hr:Rs P fn l L v)(hE:dn L ks=E:=by rfl)(hk:ie L ks=true:=by rfl):T [] n M X w0 l L (Rp P fn (Pn v E M X w0)):=
 λ_ _ H hS=>hr _ _ _ _ _ _ _ H hS ⟨_,rfl,rfl,hE▸hS.bx ks hk⟩
theorem cz{γ:Type}{F:γ→Value}{E:γ→List aj}(g:γ)(ks:List Nat)(hr:Rs P fn l L (F g))(hE:dn L ks=E g:=by rfl)(hk:ie L ks=true:=by rfl):T [] n M X w0 l L (Rp P fn (Pm F E M X w0)):=
 λ_ _ H hS=>hr _ _ _ _ _ _ _ H hS ⟨_,rfl,g,rfl,hE▸hS.bx ks hk⟩
theorem PI(hr:fn.results=#[]:=by rfl):Rs P fn l L (.tuple ⟨[]⟩):=λ_ _ _ _ _ _ _ H _ hR=>Dx H hr hR
theorem GL{t:Nat}{v:Value}(hr:fn.results=#[.tmp t]:=by rfl)(h:dF l t=some ([],v):=by rfl):Rs P fn l L v:=λ_ _ _ _ _ _ _ H _ hR=>wC H hr h hR
theorem yS{t s:Nat}{v u:Value}(hr:fn.results=#[.tmp t,.tmp s]:=by rfl)(h:dF l t=some ([],v):=by rfl)(h2:dF l s=some ([],u):=by rfl):Rs P fn l L (.tuple ⟨[v,u]⟩):=λ_ _ _ _ _ _ _ H _ hR=>Gx H hr h h2 hR
theorem rs3{t s q:Nat}{v u x:Value}(hr:fn.results=#[.tmp t,.tmp s,.tmp q]:=by rfl)(h:dF l t=some ([],v):=by rfl)(h2:dF l s=some ([],u):=by rfl)(h3:dF l q=some ([],x):=by rfl):Rs P fn l L (.tuple ⟨[v,u,x]⟩):=λ_ _ _ _ _ _ _ H _ hR=>a4g H hr h h2 h3 hR
theorem rsa(k:Nat){t b:Nat}{Y:TypeId}{cs:List Value}{d:TypeDesc}(hu:P.underlying Y=some d)(hr:fn.results=#[.cell t Y]:=by rfl)(h:dF l t=some ([],.pointer (some ⟨b,0,none⟩)):=by rfl)(hk:L[k]?=some (.cq b cs):=by rfl)
  (hd:(match d with| .struct _| .array _ _=>true|_=>false)=true:=by rfl)(hz:(P.info? Y).map (·.size)=some cs.length:=by kernel_rfl):Rs P fn l L (.agg ⟨cs⟩):=λ_ _ _ _ _ _ _ H hS hR=>wC H hr (Wa h (hS.bk k hk) hu hd hz) hR
theorem a58(k:Nat){t b s:Nat}{u:Value}{Y:TypeId}{cs:List Value}{d:TypeDesc}(hu:P.underlying Y=some d)(hr:fn.results=#[.cell t Y,.tmp s]:=by rfl)(h:dF l t=some ([],.pointer (some ⟨b,0,none⟩)):=by rfl)(h2:dF l s=some ([],u):=by rfl)(hk:L[k]?=some (.cq b cs):=by rfl)
  (hd:(match d with| .struct _| .array _ _=>true|_=>false)=true:=by rfl)(hz:(P.info? Y).map (·.size)=some cs.length:=by kernel_rfl):Rs P fn l L (.tuple ⟨[.agg ⟨cs⟩,u]⟩):=λ_ _ _ _ _ _ _ H hS hR=>Gx H hr (Wa h (hS.bk k hk) hu hd hz) h2 hR
end
section
variable {P:Program} {a:Act} {w:World} {n:Nat} {l:SF} {M:Av} {D:List Deferred}
theorem wM{α:Type}{T:Ty α}{d:Nat}{t E:TypeId}{len:Nat}{zv:Value}{parts:Array (Nat×Operand)}{ty:TypeId}{pos:String}{after:Array Edge}{L:List aj}(cs:List Value)(xs:List α)(gs:List (Nat→Gh)){vs:List Value}(H:ay D n l a)(hS:S0 M L w)(he:lq l [] (parts.toList.map (·.2))=some vs)(fX:bi T (eu M L) w xs gs)
  (hu:P.underlying t=some (.slice E):=by kernel_rfl)(hz:(P.info? E).map (·.size)=some T.z:=by kernel_rfl)(p8:(P.info? E).map (·.zero)=some (some zv):=by kernel_rfl)(hlen:Nat.ble (len*T.z) 16777216=true:=by kernel_rfl)(lx:Nat.blt 0 (len*T.z)=true:=by kernel_rfl)
  (hf:Instr.fill (λi=>some (i*T.z,T.z)) ((Array.range (len*T.z)).map (zv.cells[· %zv.cells.size]!)) ((parts.toList.map (·.1)).zip vs)=some ⟨cs⟩:=by kernel_rfl)(Dw:((dC xs (sL gs) 0).map (ic T)).flatten=cs:=by kernel_rfl)(pb:xs.length=len:=by kernel_rfl):
  bc P ⟨some d,.buildSlice t len parts,ty,pos,after,none⟩ a w λv w'=>∃g:Gh,v=.slice g.a len g.c∧SH M (aG L) w [.own E T xs g] w':=Pf cs xs gs vs H hS he hu hz p8 hlen lx hf Dw pb fX
end
def mb(k:Nat):List Nat→Bool
 |[]=>false
 |x::r=>cond (Nat.beq x k) true (mb k r)
def dl(ks:List Nat):SF→SF
 |[]=>[]
 |e::r=>cond (mb e.1 ks) (dl ks r) (e::dl ks r)
def ky:SF→List Nat
 |[]=>[]
 |e::r=>e.1::ky r
def ap:SF→SF→SF
 |[],r=>r
 |e::q,r=>e::ap q r
def nf(l:SF)(dr nk:List Nat)(nv:List Value):SF:=ap (fz nk nv) (dl nk (dl dr l))
def ak:List Nat→List Nat→List Nat
 |[],r=>r
 |e::q,r=>e::ak q r
def kl(l:SF)(dr nk:List Nat):List Nat:=ak nk (ky (dl nk (dl dr l)))
section
variable {D:List Deferred} {n:Nat} {M:Av} {X:List Nat} {w0:World} {l:SF} {L:List aj} {N R:dx} {ES:List (Nat×dx)} {P:Program} {Q:Exit→Act→World→Prop} {all:List Oper} {id:Nat}
theorem AV{l':SF}{y:Code}(ks:List Nat)(q:List (Pk (SH M X w0 L)))(h:T D n M X w0 l' L λa w=>y.wp P (Qs N ES R) a w)
  (he:gY P n all (fe q) l ks=some (l',ff q)):T D n M X w0 l L λa w=>(Code.seq (.region id all.toArray false) y).wp P (Qs N ES R) a w:=
 λ_ _ H hS=>kT (fe q) ks _ (ff q) H he (uy hS q) λ_ _ H' hb=>h _ _ H' (hS.below hb)
theorem yT{l':SF}(ks:List Nat)(q:List (Pk (SH M X w0 L)))(h:T D n M X w0 l' L N)
  (he:gY P n all (fe q) l ks=some (l',ff q)):T D n M X w0 l L λa w=>(Code.region id all.toArray false).wp P (Qs N ES R) a w:=
 λ_ _ H hS=>OW (fe q) ks _ (ff q) H he (uy hS q) λ_ _ H' hb=>h _ _ H' (hS.below hb)
theorem Xa{l':SF}{i:Nat}(j:Nat)(ks:List Nat)(q:List (Pk (SH M X w0 L)))(h:T D n M X w0 l' L λa w=>wpList P all.toArray Q (all.drop j) a w)
  (he:Dr P n all i j (fe q) l ks=some (l',ff q))(cY:Nat.ble i j=true:=by rfl):T D n M X w0 l L λa w=>wpList P all.toArray Q (all.drop i) a w:=
 λ_ _ H hS=>kV i j (fe q) ks _ (ff q) H cY he (uy hS q) λ_ _ H' hb=>h _ _ H' (hS.below hb)
theorem uR{y:Code}(dr nk:List Nat)(nv:List Value)(q:List (Pk (SH M X w0 L)))(h:T D n M X w0 (nf l dr nk nv) L λa w=>y.wp P (Qs N ES R) a w)
  (he:gY P n all (fe q) l (kl l dr nk)=some (nf l dr nk nv,ff q):=by kernel_rfl):T D n M X w0 l L λa w=>(Code.seq (.region id all.toArray false) y).wp P (Qs N ES R) a w:=AV _ q h he
theorem uW(dr nk:List Nat)(nv:List Value)(q:List (Pk (SH M X w0 L)))(h:T D n M X w0 (nf l dr nk nv) L N)
  (he:gY P n all (fe q) l (kl l dr nk)=some (nf l dr nk nv,ff q):=by kernel_rfl):T D n M X w0 l L λa w=>(Code.region id all.toArray false).wp P (Qs N ES R) a w:=yT _ q h he
theorem uB{i:Nat}(j:Nat)(dr nk:List Nat)(nv:List Value)(q:List (Pk (SH M X w0 L)))(h:T D n M X w0 (nf l dr nk nv) L λa w=>wpList P all.toArray Q (all.drop j) a w)
  (he:Dr P n all i j (fe q) l (kl l dr nk)=some (nf l dr nk nv,ff q):=by kernel_rfl)(cY:Nat.ble i j=true:=by rfl):T D n M X w0 l L λa w=>wpList P all.toArray Q (all.drop i) a w:=Xa j _ q h he cY
theorem uA{y:Code}(k:Nat)(v:Value)(q:List (Pk (SH M X w0 L)))(h:T D n M X w0 (nf l [] [k] [v]) L λa w=>y.wp P (Qs N ES R) a w)
  (he:gY P n all (fe q) l (kl l [] [k])=some (nf l [] [k] [v],ff q):=by kernel_rfl):T D n M X w0 l L λa w=>(Code.seq (.region id all.toArray false) y).wp P (Qs N ES R) a w:=AV _ q h he
theorem uV(k:Nat)(v:Value)(q:List (Pk (SH M X w0 L)))(h:T D n M X w0 (nf l [] [k] [v]) L N)
  (he:gY P n all (fe q) l (kl l [] [k])=some (nf l [] [k] [v],ff q):=by kernel_rfl):T D n M X w0 l L λa w=>(Code.region id all.toArray false).wp P (Qs N ES R) a w:=yT _ q h he
theorem uJ{α:Type}{k:Nat}{x y:Code}{t:Bool}{p s r:α}(dr:List Nat)(q:List (Pk (SH M X w0 L)))(hm:cond t p s=r)(h1:p=r→T D n M X w0 (dl dr l) L λa w=>x.wp P (Qs N ES R) a w)(h2:s=r→T D n M X w0 (dl dr l) L λa w=>y.wp P (Qs N ES R) a w)
  (he:gY P n all (fe q) l (k::ky (dl dr l))=some ((k,[],.bool t)::dl dr l,ff q):=by kernel_rfl):T D n M X w0 l L λa w=>(Code.seq (.region id all.toArray false) (.cond (.tmp k) x y)).wp P (Qs N ES R) a w:=
 AV _ q (lC (l:=(k,[],.bool t)::dl dr l) hm (λh a w H hS=>h1 h a w (H.mono λ_ he=>List.mem_cons_of_mem _ he) hS) (λh a w H hS=>h2 h a w (H.mono λ_ he=>List.mem_cons_of_mem _ he) hS) (by simp[ev,dF,o4])) he
theorem uC{α:Type}{c:Operand}{x y:Code}{t:Bool}{p s r:α}(hm:cond t p s=r)(h1:p=r→T D n M X w0 l L λa w=>x.wp P (Qs N ES R) a w)(h2:s=r→T D n M X w0 l L λa w=>y.wp P (Qs N ES R) a w)(hc:ev l [] c=some (.bool t):=by kernel_rfl):
  T D n M X w0 l L λa w=>(Code.cond c x y).wp P (Qs N ES R) a w:=lC hm h1 h2 hc
theorem uO{y:Code}(q:List (Pk (SH M X w0 L)))(h:T D n M X w0 l L λa w=>y.wp P (Qs N ES R) a w)
  (he:gY P n all (fe q) l (ky l)=some (l,ff q):=by kernel_rfl):T D n M X w0 l L λa w=>(Code.seq (.region id all.toArray false) y).wp P (Qs N ES R) a w:=AV _ q h he
theorem uP{i:Nat}(j:Nat)(q:List (Pk (SH M X w0 L)))(h:T D n M X w0 l L λa w=>wpList P all.toArray Q (all.drop j) a w)
  (he:Dr P n all i j (fe q) l (ky l)=some (l,ff q):=by kernel_rfl)(cY:Nat.ble i j=true:=by rfl):T D n M X w0 l L λa w=>wpList P all.toArray Q (all.drop i) a w:=Xa j _ q h he cY
theorem uI{α:Type}{k:Nat}{x y:Code}{t:Bool}{p s r:α}(q:List (Pk (SH M X w0 L)))(hm:cond t p s=r)(h1:p=r→T D n M X w0 l L λa w=>x.wp P (Qs N ES R) a w)(h2:s=r→T D n M X w0 l L λa w=>y.wp P (Qs N ES R) a w)
  (he:gY P n all (fe q) l (k::ky l)=some ((k,[],.bool t)::l,ff q):=by kernel_rfl):T D n M X w0 l L λa w=>(Code.seq (.region id all.toArray false) (.cond (.tmp k) x y)).wp P (Qs N ES R) a w:=
 AV _ q (lC (l:=(k,[],.bool t)::l) hm (λh a w H hS=>h1 h a w (H.mono λ_ he=>List.mem_cons_of_mem _ he) hS) (λh a w H hS=>h2 h a w (H.mono λ_ he=>List.mem_cons_of_mem _ he) hS) (by simp[ev,dF,o4])) he
theorem uI1{α:Type}{k:Nat}{x y:Code}{t:Bool}{p:Option α}{r:α}(q:List (Pk (SH M X w0 L)))(hm:cond t p none=some r)(h1:p=some r→T D n M X w0 l L λa w=>x.wp P (Qs N ES R) a w)
  (he:gY P n all (fe q) l (k::ky l)=some ((k,[],.bool t)::l,ff q):=by kernel_rfl):T D n M X w0 l L λa w=>(Code.seq (.region id all.toArray false) (.cond (.tmp k) x y)).wp P (Qs N ES R) a w:=uI q hm h1 (λh=>kU h) he
theorem Xb{α:Type}{k:Nat}{x y:Code}{t:Bool}{s:Option α}{r:α}(q:List (Pk (SH M X w0 L)))(hm:cond t none s=some r)(h2:s=some r→T D n M X w0 l L λa w=>y.wp P (Qs N ES R) a w)
  (he:gY P n all (fe q) l (k::ky l)=some ((k,[],.bool t)::l,ff q):=by kernel_rfl):T D n M X w0 l L λa w=>(Code.seq (.region id all.toArray false) (.cond (.tmp k) x y)).wp P (Qs N ES R) a w:=uI q hm (λh=>kU h) h2 he
theorem uN{i:Nat}{o:Oper}{E:List aj}(kt rt:List Nat)
  (hs:∀a w,ay D n l a→S0 (eu M (dn L rt)) (dn L kt) w→bc P o a w λ_ w'=>SH (eu M (dn L rt)) (aG (dn L kt)) w E w')
  (h:T D n M X w0 l (E++dn L rt) λa w=>wpList P all.toArray Q (all.drop (i+1)) a w)
  (ho:all[i]?=some o:=by rfl)(hg:o.guard=none:=by rfl)(og:o.dst=none:=by rfl)(hk:aV l (ky l)=some l:=by kernel_rfl)
  (h1:ie L kt=true:=by rfl)(h2:pf L rt kt=true:=by rfl)(h3:ie L rt=true:=by rfl):T D n M X w0 l L λa w=>wpList P all.toArray Q (all.drop i) a w:=
 λ_ w H hS=>nC (ky l) _ H ho hg og (hs _ w H (hS.hand kt rt h1 h2)) hk λ_ _ H' ⟨_,hq⟩=>h _ _ H' (hS.join kt rt h3 h2 hq)
theorem uM{γ:Type}{i d:Nat}{o:Oper}{F:γ→Value}{E:γ→List aj}(kt rt dr:List Nat)
  (hs:∀a w,ay D n l a→S0 (eu M (dn L rt)) (dn L kt) w→bc P o a w λv w'=>∃g,v=F g∧SH (eu M (dn L rt)) (aG (dn L kt)) w (E g) w')
  (h:∀g,T D n M X w0 ((d,[],F g)::dl (d::dr) l) (E g++dn L rt) λa w=>wpList P all.toArray Q (all.drop (i+1)) a w)
  (ho:all[i]?=some o:=by rfl)(hg:o.guard=none:=by rfl)(og:o.dst=some d:=by rfl)(hd:Nat.blt d n=true:=by rfl)(hk:∀v,aV (jC l d [] v) (d::ky (dl (d::dr) l))=some ((d,[],v)::dl (d::dr) l):=by intro v;kernel_rfl)
  (h1:ie L kt=true:=by rfl)(h2:pf L rt kt=true:=by rfl)(h3:ie L rt=true:=by rfl):T D n M X w0 l L λa w=>wpList P all.toArray Q (all.drop i) a w:=
 λ_ w H hS=>lA (d::ky (dl (d::dr) l)) _ H ho hg og hd (hs _ w H (hS.hand kt rt h1 h2)) hk λ_ _ _ H' ⟨g,e,hq⟩=>h g _ _ (e▸H') (hS.join kt rt h3 h2 hq)
theorem uL{i:Nat}{o:Oper}{E:List aj}(kt rt dr:List Nat)
  (hs:∀a w,ay D n l a→S0 (eu M (dn L rt)) (dn L kt) w→bc P o a w λ_ w'=>SH (eu M (dn L rt)) (aG (dn L kt)) w E w')
  (h:T D n M X w0 (dl dr l) (E++dn L rt) λa w=>wpList P all.toArray Q (all.drop (i+1)) a w)
  (ho:all[i]?=some o:=by rfl)(hg:o.guard=none:=by rfl)(og:o.dst=none:=by rfl)(hk:aV l (ky (dl dr l))=some (dl dr l):=by kernel_rfl)
  (h1:ie L kt=true:=by rfl)(h2:pf L rt kt=true:=by rfl)(h3:ie L rt=true:=by rfl):T D n M X w0 l L λa w=>wpList P all.toArray Q (all.drop i) a w:=
 λ_ w H hS=>nC (ky (dl dr l)) _ H ho hg og (hs _ w H (hS.hand kt rt h1 h2)) hk λ_ _ H' ⟨_,hq⟩=>h _ _ H' (hS.join kt rt h3 h2 hq)
theorem uQ{γ:Type}{i d:Nat}{x:Operand}{ar:Array Operand}{ns:Array TypeId}{ty:TypeId}{pos:String}{after:Array Edge}{f:FuncId}{av first GK o5:List Value}{F:γ→Value}{E:γ→List aj}{L':List aj}(kt rt dr:List Nat)(hc:GI P f ⟨av⟩ L' F E)
  (h:∀g,T D n M X w0 ((d,[],F g)::dl (d::dr) l) (E g++dn L rt) λa w=>wpList P all.toArray Q (all.drop (i+1)) a w)
  (ho:all[i]?=some ⟨some d,.call ⟨.value x,ar,ns⟩,ty,pos,after,none⟩:=by rfl)(hx:callee l [] x=some (f,first,o5):=by rfl)(ha:lq l [] ar.toList=some GK:=by rfl)(hv:first++GK++o5=av:=by rfl)(hL:dn L kt=L':=by rfl)
  (hd:Nat.blt d n=true:=by rfl)(hk:∀v,aV (jC l d [] v) (d::ky (dl (d::dr) l))=some ((d,[],v)::dl (d::dr) l):=by intro v;kernel_rfl)
  (h1:ie L kt=true:=by rfl)(h2:pf L rt kt=true:=by rfl)(h3:ie L rt=true:=by rfl):T D n M X w0 l L λa w=>wpList P all.toArray Q (all.drop i) a w:=by
 subst hv hL;exact uM kt rt dr (λ_ _ H hS=>cN H hx ha (hc _ _ hS)) h ho rfl rfl hd hk h1 h2 h3
theorem te{l':SF}{L':List aj}(hl:aV l (ky l')=some l':=by kernel_rfl)(hL:L=L':=by rfl):T D n M X w0 l L (Cu D n M X w0 l' L'):=wL _ hl hL
abbrev Cs{ρ γ:Type}(z:Sum ρ γ)(D:List Deferred)(n:Nat)(M:Av)(X:List Nat)(w0:World)(l:γ→SF)(L:γ→List aj):dx:=λa w=>∃s,z=Sum.inr s∧ay D n (l s) a∧SH M X w0 (L s) w
theorem uS{ρ γ:Type}{z:Sum ρ γ}{x y:Code}(dr nk:List Nat)(nv:γ→List Value)(L':γ→List aj)(h:T D n M X w0 l L λa w=>x.wp P (Qs (Cs z D n M X w0 (λs=>nf l dr nk (nv s)) L') ES R) a w)(h2:∀s,z=Sum.inr s→T D n M X w0 (nf l dr nk (nv s)) (L' s) λa w=>y.wp P (Qs N ES R) a w):
  T D n M X w0 l L λa w=>(Code.seq x y).wp P (Qs N ES R) a w:=λ_ _ H hS=>kF _ (h _ _ H hS) λa w ⟨s,hz,h⟩=>h2 s hz a w h.1 h.2
theorem ts{ρ γ:Type}{s:γ}{l':γ→SF}{L':γ→List aj}(hl:aV l (ky (l' s))=some (l' s):=by kernel_rfl)(hL:L=L' s:=by rfl):T D n M X w0 l L (Cs (Sum.inr s:Sum ρ γ) D n M X w0 l' L'):=λ_ _ H hS=>⟨s,rfl,ay.aV H hl,by rw[←hL];exact hS⟩
theorem uK{x y:Code}(dr nk:List Nat)(nv:List Value)(L':List aj)(h:T D n M X w0 l L λa w=>x.wp P (Qs (Cu D n M X w0 (nf l dr nk nv) L') ES R) a w)(h2:T D n M X w0 (nf l dr nk nv) L' λa w=>y.wp P (Qs N ES R) a w):
  T D n M X w0 l L λa w=>(Code.seq x y).wp P (Qs N ES R) a w:=λ_ _ H hS=>kF _ (h _ _ H hS) λa w h=>h2 a w h.1 h.2
theorem kK{γ:Type}{x y:Code}(dr nk:List Nat)(nv:γ→List Value)(L':γ→List aj)(h:T D n M X w0 l L λa w=>x.wp P (Qs (Cg D n M X w0 (λg=>nf l dr nk (nv g)) L') ES R) a w)(h2:∀g,T D n M X w0 (nf l dr nk (nv g)) (L' g) λa w=>y.wp P (Qs N ES R) a w):
  T D n M X w0 l L λa w=>(Code.seq x y).wp P (Qs N ES R) a w:=λ_ _ H hS=>kF _ (h _ _ H hS) λa w ⟨g,h⟩=>h2 g a w h.1 h.2
theorem tg{γ:Type}{l':γ→SF}{L':γ→List aj}(g:γ)(hl:aV l (ky (l' g))=some (l' g):=by kernel_rfl)(hL:L=L' g:=by rfl):T D n M X w0 l L (Cg D n M X w0 l' L'):=a57 g _ hl hL
end
section
variable {D:List Deferred} {n:Nat} {M:Av} {X:List Nat} {w0:World} {l:SF} {L:List aj} {N R:dx} {ES:List (Nat×dx)} {P:Program} {c:Code} {ρ α β δ ε γ:Type} {all:List Oper} {id:Nat}
abbrev PJ(F:Nat→α→Option ρ)(r:ρ)(k:Nat)(D:List Deferred)(n:Nat)(M:Av)(X:List Nat)(w0:World)(l:α→SF)(L:α→List aj):dx:=λa w=>∃m,m<k∧∃x,F m x=some r∧ay D n (l x) a∧SH M X w0 (L x) w
theorem kZ{F:Nat→α→Option ρ}{r:ρ}{k:Nat}{x:α}(dr nk:List Nat)(nv:α→List Value)(L':α→List aj)(hm:F k x=some r)(h:∀k x,F (k+1) x=some r→T D n M X w0 (nf l dr nk (nv x)) (L' x) λa w=>c.wp P (Qs (PJ F r (k+1) D n M X w0 (λx=>nf l dr nk (nv x)) L') ES R) a w)
  (hz:∀x,F 0 x=none:=by intros;rfl)(hl:aV l (kl l dr nk)=some (nf l dr nk (nv x)):=by kernel_rfl)(hL:L=L' x:=by rfl):T D n M X w0 l L λa w=>(Code.loop c).wp P (Qs N ES R) a w:=
 λa w H hS=>nu (λk a w=>∃x,F k x=some r∧ay D n (nf l dr nk (nv x)) a∧SH M X w0 (L' x) w) ⟨k,x,hm,ay.aV H hl,by rw[←hL];exact hS⟩ λm a w=>by
  rintro⟨x,hm,H,hS⟩;cases m with
  |zero=>rw[hz]at hm;cases hm
  |succ k=>exact h k x hm a w H hS
theorem GM{F:Nat→α→Option ρ}{r:ρ}{k:Nat}{x:α}{lf:α→SF}{Lf:α→List aj}(hm:F k x=some r)(hl:aV l (ky (lf x))=some (lf x):=by kernel_rfl)(hL:L=Lf x:=by rfl):T D n M X w0 l L (PJ F r (k+1) D n M X w0 lf Lf):=
 λ_ _ H hS=>⟨k,Nat.lt_succ_self _,x,hm,ay.aV H hl,by rw[←hL];exact hS⟩
theorem mC{F:Nat→α→Option ρ}{r:ρ}{k:Nat}{x:α}{lf:α→SF}{Lf:α→List aj}(q:List (Pk (SH M X w0 L)))(hm:F k x=some r)(he:gY P n all (fe q) l (ky (lf x))=some (lf x,ff q):=by kernel_rfl)(hL:L=Lf x:=by rfl):T D n M X w0 l L λa w=>(Code.region id all.toArray false).wp P (Qs (PJ F r (k+1) D n M X w0 lf Lf) ES R) a w:=
 yT _ q (λ_ _ H hS=>⟨k,Nat.lt_succ_self _,x,hm,H,by rw[←hL];exact hS⟩) he
abbrev PK(F:Nat→α→β→Option ρ)(r:ρ)(k:Nat)(D:List Deferred)(n:Nat)(M:Av)(X:List Nat)(w0:World)(l:α→β→SF)(L:α→β→List aj):dx:=λa w=>∃m,m<k∧∃x,∃y,F m x y=some r∧ay D n (l x y) a∧SH M X w0 (L x y) w
theorem pp{F:Nat→α→β→Option ρ}{r:ρ}{k:Nat}{x:α}{y:β}(dr nk:List Nat)(nv:α→β→List Value)(L':α→β→List aj)(hm:F k x y=some r)(h:∀k x y,F (k+1) x y=some r→T D n M X w0 (nf l dr nk (nv x y)) (L' x y) λa w=>c.wp P (Qs (PK F r (k+1) D n M X w0 (λx y=>nf l dr nk (nv x y)) L') ES R) a w)
  (hz:∀x y,F 0 x y=none:=by intros;rfl)(hl:aV l (kl l dr nk)=some (nf l dr nk (nv x y)):=by kernel_rfl)(hL:L=L' x y:=by rfl):T D n M X w0 l L λa w=>(Code.loop c).wp P (Qs N ES R) a w:=
 λa w H hS=>nu (λk a w=>∃x,∃y,F k x y=some r∧ay D n (nf l dr nk (nv x y)) a∧SH M X w0 (L' x y) w) ⟨k,x,y,hm,ay.aV H hl,by rw[←hL];exact hS⟩ λm a w=>by
  rintro⟨x,y,hm,H,hS⟩;cases m with
  |zero=>rw[hz]at hm;cases hm
  |succ k=>exact h k x y hm a w H hS
theorem Xc{F:Nat→α→β→Option ρ}{r:ρ}{k:Nat}{x:α}{y:β}{lf:α→β→SF}{Lf:α→β→List aj}(hm:F k x y=some r)(hl:aV l (ky (lf x y))=some (lf x y):=by kernel_rfl)(hL:L=Lf x y:=by rfl):T D n M X w0 l L (PK F r (k+1) D n M X w0 lf Lf):=
 λ_ _ H hS=>⟨k,Nat.lt_succ_self _,x,y,hm,ay.aV H hl,by rw[←hL];exact hS⟩
theorem mf{F:Nat→α→β→Option ρ}{r:ρ}{k:Nat}{x:α}{y:β}{lf:α→β→SF}{Lf:α→β→List aj}(q:List (Pk (SH M X w0 L)))(hm:F k x y=some r)(he:gY P n all (fe q) l (ky (lf x y))=some (lf x y,ff q):=by kernel_rfl)(hL:L=Lf x y:=by rfl):T D n M X w0 l L λa w=>(Code.region id all.toArray false).wp P (Qs (PK F r (k+1) D n M X w0 lf Lf) ES R) a w:=
 yT _ q (λ_ _ H hS=>⟨k,Nat.lt_succ_self _,x,y,hm,H,by rw[←hL];exact hS⟩) he
abbrev PL(F:Nat→α→β→Option ρ)(r:ρ)(k:Nat)(D:List Deferred)(n:Nat)(M:Av)(X:List Nat)(w0:World)(l:α→β→γ→SF)(L:α→β→γ→List aj):dx:=λa w=>∃m,m<k∧∃x,∃y,∃g,F m x y=some r∧ay D n (l x y g) a∧SH M X w0 (L x y g) w
theorem rz{F:Nat→α→β→Option ρ}{r:ρ}{k:Nat}{x:α}{y:β}(dr nk:List Nat)(nv:α→β→γ→List Value)(L':α→β→γ→List aj)(g:γ)(hm:F k x y=some r)(h:∀k x y g,F (k+1) x y=some r→T D n M X w0 (nf l dr nk (nv x y g)) (L' x y g) λa w=>c.wp P (Qs (PL F r (k+1) D n M X w0 (λx y g=>nf l dr nk (nv x y g)) L') ES R) a w)
  (hz:∀x y,F 0 x y=none:=by intros;rfl)(hl:aV l (kl l dr nk)=some (nf l dr nk (nv x y g)):=by kernel_rfl)(hL:L=L' x y g:=by rfl):T D n M X w0 l L λa w=>(Code.loop c).wp P (Qs N ES R) a w:=
 λa w H hS=>nu (λk a w=>∃x,∃y,∃g,F k x y=some r∧ay D n (nf l dr nk (nv x y g)) a∧SH M X w0 (L' x y g) w) ⟨k,x,y,g,hm,ay.aV H hl,by rw[←hL];exact hS⟩ λm a w=>by
  rintro⟨x,y,g,hm,H,hS⟩;cases m with
  |zero=>rw[hz]at hm;cases hm
  |succ k=>exact h k x y g hm a w H hS
theorem rC{F:Nat→α→β→Option ρ}{r:ρ}{k:Nat}{x:α}{y:β}{lf:α→β→γ→SF}{Lf:α→β→γ→List aj}(g:γ)(hm:F k x y=some r)(hl:aV l (ky (lf x y g))=some (lf x y g):=by kernel_rfl)(hL:L=Lf x y g:=by rfl):T D n M X w0 l L (PL F r (k+1) D n M X w0 lf Lf):=
 λ_ _ H hS=>⟨k,Nat.lt_succ_self _,x,y,g,hm,ay.aV H hl,by rw[←hL];exact hS⟩
theorem PM{F:Nat→α→β→Option ρ}{r:ρ}{k:Nat}{x:α}{y:β}{lf:α→β→γ→SF}{Lf:α→β→γ→List aj}(q:List (Pk (SH M X w0 L)))(g:γ)(hm:F k x y=some r)(he:gY P n all (fe q) l (ky (lf x y g))=some (lf x y g,ff q):=by kernel_rfl)(hL:L=Lf x y g:=by rfl):T D n M X w0 l L λa w=>(Code.region id all.toArray false).wp P (Qs (PL F r (k+1) D n M X w0 lf Lf) ES R) a w:=
 yT _ q (λ_ _ H hS=>⟨k,Nat.lt_succ_self _,x,y,g,hm,H,by rw[←hL];exact hS⟩) he
abbrev Xd(F:Nat→α→β→δ→Option ρ)(r:ρ)(k:Nat)(D:List Deferred)(n:Nat)(M:Av)(X:List Nat)(w0:World)(l:α→β→δ→SF)(L:α→β→δ→List aj):dx:=λa w=>∃m,m<k∧∃x,∃y,∃u,F m x y u=some r∧ay D n (l x y u) a∧SH M X w0 (L x y u) w
theorem PN{F:Nat→α→β→δ→Option ρ}{r:ρ}{k:Nat}{x:α}{y:β}{u:δ}(dr nk:List Nat)(nv:α→β→δ→List Value)(L':α→β→δ→List aj)(hm:F k x y u=some r)(h:∀k x y u,F (k+1) x y u=some r→T D n M X w0 (nf l dr nk (nv x y u)) (L' x y u) λa w=>c.wp P (Qs (Xd F r (k+1) D n M X w0 (λx y u=>nf l dr nk (nv x y u)) L') ES R) a w)
  (hz:∀x y u,F 0 x y u=none:=by intros;rfl)(hl:aV l (kl l dr nk)=some (nf l dr nk (nv x y u)):=by kernel_rfl)(hL:L=L' x y u:=by rfl):T D n M X w0 l L λa w=>(Code.loop c).wp P (Qs N ES R) a w:=
 λa w H hS=>nu (λk a w=>∃x,∃y,∃u,F k x y u=some r∧ay D n (nf l dr nk (nv x y u)) a∧SH M X w0 (L' x y u) w) ⟨k,x,y,u,hm,ay.aV H hl,by rw[←hL];exact hS⟩ λm a w=>by
  rintro⟨x,y,u,hm,H,hS⟩;cases m with
  |zero=>rw[hz]at hm;cases hm
  |succ k=>exact h k x y u hm a w H hS
theorem PO{F:Nat→α→β→δ→Option ρ}{r:ρ}{k:Nat}{x:α}{y:β}{u:δ}{lf:α→β→δ→SF}{Lf:α→β→δ→List aj}(q:List (Pk (SH M X w0 L)))(hm:F k x y u=some r)(he:gY P n all (fe q) l (ky (lf x y u))=some (lf x y u,ff q):=by kernel_rfl)(hL:L=Lf x y u:=by rfl):T D n M X w0 l L λa w=>(Code.region id all.toArray false).wp P (Qs (Xd F r (k+1) D n M X w0 lf Lf) ES R) a w:=
 yT _ q (λ_ _ H hS=>⟨k,Nat.lt_succ_self _,x,y,u,hm,H,by rw[←hL];exact hS⟩) he
abbrev PP(F:Nat→α→β→δ→Option ρ)(r:ρ)(k:Nat)(D:List Deferred)(n:Nat)(M:Av)(X:List Nat)(w0:World)(l:α→β→δ→γ→SF)(L:α→β→δ→γ→List aj):dx:=λa w=>∃m,m<k∧∃x,∃y,∃u,∃g,F m x y u=some r∧ay D n (l x y u g) a∧SH M X w0 (L x y u g) w
theorem PQ{F:Nat→α→β→δ→Option ρ}{r:ρ}{k:Nat}{x:α}{y:β}{u:δ}(dr nk:List Nat)(nv:α→β→δ→γ→List Value)(L':α→β→δ→γ→List aj)(g:γ)(hm:F k x y u=some r)(h:∀k x y u g,F (k+1) x y u=some r→T D n M X w0 (nf l dr nk (nv x y u g)) (L' x y u g) λa w=>c.wp P (Qs (PP F r (k+1) D n M X w0 (λx y u g=>nf l dr nk (nv x y u g)) L') ES R) a w)
  (hz:∀x y u,F 0 x y u=none:=by intros;rfl)(hl:aV l (kl l dr nk)=some (nf l dr nk (nv x y u g)):=by kernel_rfl)(hL:L=L' x y u g:=by rfl):T D n M X w0 l L λa w=>(Code.loop c).wp P (Qs N ES R) a w:=
 λa w H hS=>nu (λk a w=>∃x,∃y,∃u,∃g,F k x y u=some r∧ay D n (nf l dr nk (nv x y u g)) a∧SH M X w0 (L' x y u g) w) ⟨k,x,y,u,g,hm,ay.aV H hl,by rw[←hL];exact hS⟩ λm a w=>by
  rintro⟨x,y,u,g,hm,H,hS⟩;cases m with
  |zero=>rw[hz]at hm;cases hm
  |succ k=>exact h k x y u g hm a w H hS
theorem a5a{F:Nat→α→β→δ→Option ρ}{r:ρ}{k:Nat}{x:α}{y:β}{u:δ}{lf:α→β→δ→γ→SF}{Lf:α→β→δ→γ→List aj}(g:γ)(hm:F k x y u=some r)(hl:aV l (ky (lf x y u g))=some (lf x y u g):=by kernel_rfl)(hL:L=Lf x y u g:=by rfl):T D n M X w0 l L (PP F r (k+1) D n M X w0 lf Lf):=
 λ_ _ H hS=>⟨k,Nat.lt_succ_self _,x,y,u,g,hm,ay.aV H hl,by rw[←hL];exact hS⟩
theorem Xe{F:Nat→α→β→δ→Option ρ}{r:ρ}{k:Nat}{x:α}{y:β}{u:δ}{lf:α→β→δ→γ→SF}{Lf:α→β→δ→γ→List aj}(q:List (Pk (SH M X w0 L)))(g:γ)(hm:F k x y u=some r)(he:gY P n all (fe q) l (ky (lf x y u g))=some (lf x y u g,ff q):=by kernel_rfl)(hL:L=Lf x y u g:=by rfl):T D n M X w0 l L λa w=>(Code.region id all.toArray false).wp P (Qs (PP F r (k+1) D n M X w0 lf Lf) ES R) a w:=
 yT _ q (λ_ _ H hS=>⟨k,Nat.lt_succ_self _,x,y,u,g,hm,H,by rw[←hL];exact hS⟩) he
abbrev Xf(F:Nat→α→β→δ→ε→Option ρ)(r:ρ)(k:Nat)(D:List Deferred)(n:Nat)(M:Av)(X:List Nat)(w0:World)(l:α→β→δ→ε→SF)(L:α→β→δ→ε→List aj):dx:=λa w=>∃m,m<k∧∃x,∃y,∃u,∃v,F m x y u v=some r∧ay D n (l x y u v) a∧SH M X w0 (L x y u v) w
theorem Xg{F:Nat→α→β→δ→ε→Option ρ}{r:ρ}{k:Nat}{x:α}{y:β}{u:δ}{v:ε}(dr nk:List Nat)(nv:α→β→δ→ε→List Value)(L':α→β→δ→ε→List aj)(hm:F k x y u v=some r)(h:∀k x y u v,F (k+1) x y u v=some r→T D n M X w0 (nf l dr nk (nv x y u v)) (L' x y u v) λa w=>c.wp P (Qs (Xf F r (k+1) D n M X w0 (λx y u v=>nf l dr nk (nv x y u v)) L') ES R) a w)
  (hz:∀x y u v,F 0 x y u v=none:=by intros;rfl)(hl:aV l (kl l dr nk)=some (nf l dr nk (nv x y u v)):=by kernel_rfl)(hL:L=L' x y u v:=by rfl):T D n M X w0 l L λa w=>(Code.loop c).wp P (Qs N ES R) a w:=
 λa w H hS=>nu (λk a w=>∃x,∃y,∃u,∃v,F k x y u v=some r∧ay D n (nf l dr nk (nv x y u v)) a∧SH M X w0 (L' x y u v) w) ⟨k,x,y,u,v,hm,ay.aV H hl,by rw[←hL];exact hS⟩ λm a w=>by
  rintro⟨x,y,u,v,hm,H,hS⟩;cases m with
  |zero=>rw[hz]at hm;cases hm
  |succ k=>exact h k x y u v hm a w H hS
theorem Xh{F:Nat→α→β→δ→ε→Option ρ}{r:ρ}{k:Nat}{x:α}{y:β}{u:δ}{v:ε}{lf:α→β→δ→ε→SF}{Lf:α→β→δ→ε→List aj}(q:List (Pk (SH M X w0 L)))(hm:F k x y u v=some r)(he:gY P n all (fe q) l (ky (lf x y u v))=some (lf x y u v,ff q):=by kernel_rfl)(hL:L=Lf x y u v:=by rfl):T D n M X w0 l L λa w=>(Code.region id all.toArray false).wp P (Qs (Xf F r (k+1) D n M X w0 lf Lf) ES R) a w:=
 yT _ q (λ_ _ H hS=>⟨k,Nat.lt_succ_self _,x,y,u,v,hm,H,by rw[←hL];exact hS⟩) he
end
section
variable {n:Nat} {M:Av} {X:List Nat} {w0:World} {l:SF} {L E:List aj} {ES:List (Nat×dx)} {P:Program} {all:List Oper} {id:Nat} {fn:Func} {N:dx}
theorem sT(hr:fn.results=#[]:=by rfl):Rs P fn l L (.tuple ⟨[]⟩):=PI hr
theorem be{t:Nat}{v:Value}(hr:fn.results=#[.tmp t]:=by rfl)(h:dF l t=some ([],v):=by kernel_rfl):Rs P fn l L v:=GL hr h
theorem gQ{t s:Nat}{v u:Value}(hr:fn.results=#[.tmp t,.tmp s]:=by rfl)(h:dF l t=some ([],v):=by kernel_rfl)(h2:dF l s=some ([],u):=by kernel_rfl):Rs P fn l L (.tuple ⟨[v,u]⟩):=yS hr h h2
theorem mg{t s q:Nat}{v u x:Value}(hr:fn.results=#[.tmp t,.tmp s,.tmp q]:=by rfl)(h:dF l t=some ([],v):=by kernel_rfl)(h2:dF l s=some ([],u):=by kernel_rfl)(h3:dF l q=some ([],x):=by kernel_rfl):Rs P fn l L (.tuple ⟨[v,u,x]⟩):=rs3 hr h h2 h3
theorem j0(k:Nat){t b:Nat}{Y:TypeId}{cs:List Value}{d:TypeDesc}(hu:P.underlying Y=some d)(hr:fn.results=#[.cell t Y]:=by rfl)(hk:L[k]?=some (.cq b cs):=by rfl)(h:dF l t=some ([],.pointer (some ⟨b,0,none⟩)):=by kernel_rfl)
  (hd:(match d with| .struct _| .array _ _=>true|_=>false)=true:=by rfl)(hz:(P.info? Y).map (·.size)=some cs.length:=by kernel_rfl):Rs P fn l L (.agg ⟨cs⟩):=rsa k hu hr h hk hd hz
theorem j5(k:Nat){t b s:Nat}{u:Value}{Y:TypeId}{cs:List Value}{d:TypeDesc}(hu:P.underlying Y=some d)(hr:fn.results=#[.cell t Y,.tmp s]:=by rfl)(hk:L[k]?=some (.cq b cs):=by rfl)(h:dF l t=some ([],.pointer (some ⟨b,0,none⟩)):=by kernel_rfl)(h2:dF l s=some ([],u):=by kernel_rfl)
  (hd:(match d with| .struct _| .array _ _=>true|_=>false)=true:=by rfl)(hz:(P.info? Y).map (·.size)=some cs.length:=by kernel_rfl):Rs P fn l L (.tuple ⟨[.agg ⟨cs⟩,u]⟩):=a58 k hu hr h h2 hk hd hz
theorem uZ{t:Nat}{v:Value}(ks:List Nat)(q:List (Pk (SH M X w0 L)))(hr:fn.results=#[.tmp t]:=by rfl)(he:gY P n all (fe q) l [t]=some ([(t,[],v)],ff q):=by kernel_rfl)(hE:dn L ks=E:=by rfl)(hk:ie L ks=true:=by rfl):
  T [] n M X w0 l L λa w=>(Code.seq (.region id all.toArray false) .ret).wp P (Qs N ES (Rp P fn (Pn v E M X w0))) a w:=AV _ q (aJ (aU ks (GL hr (by simp[dF])) hE hk)) he
theorem uY{t s:Nat}{v u:Value}(ks:List Nat)(q:List (Pk (SH M X w0 L)))(hr:fn.results=#[.tmp t,.tmp s]:=by rfl)(he:gY P n all (fe q) l [t,s]=some ([(t,[],v),(s,[],u)],ff q):=by kernel_rfl)(jE:Nat.beq t s=false:=by rfl)(hE:dn L ks=E:=by rfl)(hk:ie L ks=true:=by rfl):
  T [] n M X w0 l L λa w=>(Code.seq (.region id all.toArray false) .ret).wp P (Qs N ES (Rp P fn (Pn (.tuple ⟨[v,u]⟩) E M X w0))) a w:=AV _ q (aJ (aU ks (yS hr (by simp[dF]) (by simp[dF,jE])) hE hk)) he
end
section
variable {P:Program} {D:List Deferred} {n:Nat} {M:Av} {l:SF} {ty:TypeId} {pos:String} {after:Array Edge}
theorem oS{t:TypeId}{x y:Operand}{b off:Nat}{v:Value}{cs:List Value}(sO:List Value)
  (hx:ev l [] x=some (.pointer (some ⟨b,off,none⟩)))(hy:ev l [] y=some v)(hz:(P.info? t).map (·.size)=some v.cells.toList.length:=by kernel_rfl)(h1:o8 v.cells.toList=true:=by kernel_rfl)(hl:Nat.ble (off+v.cells.toList.length) cs.length=true:=by kernel_rfl)(hs:iW cs off v.cells.toList=sO:=by kernel_rfl):
  ∀a w,ay D n l a→S0 M [.cq b cs] w→bc P ⟨none,.store t x y,ty,pos,after,none⟩ a w λ_ w'=>SH M (aG [.cq b cs]) w [.cq b sO] w':=λ_ _ H hS=>gn sO H hS hx hy hz h1 hl hs
theorem oA{d:Option Tmp}{E:TypeId}(cs:List Value)(hz:(P.info? E).map (·.zero)=some (some (.agg ⟨cs⟩)):=by kernel_rfl):
  ∀a w,ay D n l a→S0 M [] w→bc P ⟨d,.alloc E,ty,pos,after,none⟩ a w λu w'=>∃b:Nat,u=.pointer (some ⟨b,0,none⟩)∧SH M (aG []) w [.cq b cs] w':=λ_ _ _ hS=>nz cs (z:=.agg ⟨cs⟩) hS hz rfl
theorem oB{d:Option Tmp}{E:TypeId}{x:Operand}{v:Value}(cs:List Value)(hx:ev l [] x=some v)(hc:v.cells.toList=cs:=by kernel_rfl):
  ∀a w,ay D n l a→S0 M [] w→bc P ⟨d,.box E x,ty,pos,after,none⟩ a w λu w'=>∃b:Nat,u=.pointer (some ⟨b,0,none⟩)∧SH M (aG []) w [.cq b cs] w':=λ_ _ H hS=>a4n cs H hS hx hc
theorem oL{α:Type}(T:Ty α){d:Nat}{t:TypeId}(E:TypeId){len:Nat}(zv:Value){parts:Array (Nat×Operand)}{L:List aj}(xs:List α)(gs:List (Nat→Gh)){vs:List Value}(fX:∀{w},S0 M L w→bi T (eu M L) w xs gs)(he:lq l [] (parts.toList.map (·.2))=some vs)
  (hu:P.underlying t=some (.slice E):=by kernel_rfl)(hz:(P.info? E).map (·.size)=some T.z:=by kernel_rfl)(p8:(P.info? E).map (·.zero)=some (some zv):=by kernel_rfl)(hlen:Nat.ble (len*T.z) 16777216=true:=by kernel_rfl)(lx:Nat.blt 0 (len*T.z)=true:=by kernel_rfl)
  (hf:Instr.fill (λi=>some (i*T.z,T.z)) ((Array.range (len*T.z)).map (zv.cells[· %zv.cells.size]!)) ((parts.toList.map (·.1)).zip vs)=some ⟨((dC xs (sL gs) 0).map (ic T)).flatten⟩:=by kernel_rfl)(pb:xs.length=len:=by kernel_rfl):
  ∀a w,ay D n l a→S0 M L w→bc P ⟨some d,.buildSlice t len parts,ty,pos,after,none⟩ a w λv w'=>∃g:Gh,v=.slice g.a len g.c∧SH M (aG L) w [.own E T xs g] w':=λ_ _ H hS=>Pf _ xs gs vs H hS he hu hz p8 hlen lx hf rfl pb (fX hS)
theorem oP{α:Type}(T:Ty α){d:Nat}{s x:Operand}{t e e2:TypeId}(zv:Value)(g1 g2:Gh){n1 n2 c1 c2:Nat}{a1 a2:Option Addr}{l1 l2 q:List α}(hq:q=l1++l2)(hl:V.ln l1+V.ln l2≤1099511627776)
  (hs:ev l [] s=some (.slice a1 n1 c1))(hx:ev l [] x=some (.slice a2 n2 c2))(lY:g1.a=a1:=by kernel_rfl)(iZ:g1.c=c1:=by kernel_rfl)(uq:g2.a=a2:=by kernel_rfl)(jD:l1.length=n1:=by kernel_rfl)(kD:l2.length=n2:=by kernel_rfl)
  (hu:P.underlying t=some (.slice e):=by kernel_rfl)(hi:(P.info? e).map (λi=>(i.size,Nat.ble i.bytes 128,i.zero))=some (T.z,true,some zv):=by kernel_rfl)(o9:zv.cells.size=T.z:=by kernel_rfl)(hz:Nat.blt 0 T.z=true:=by kernel_rfl):
  ∀a w,ay D n l a→S0 M [.own e T l1 g1,.own e2 T l2 g2] w→bc P ⟨some d,.call ⟨.builtin .append,#[s,x],#[t,t]⟩,ty,pos,after,none⟩ a w λv w'=>∃g:Gh,v=.slice g.a q.length g.c∧SH M (aG [.own e T l1 g1,.own e2 T l2 g2]) w [.own e T q g,.own e2 T l2 g2] w':=
 λ_ _ H hS=>AH q hq.symm H hS hs hx lY iZ uq jD kD hu hi o9 hz hl
end
abbrev gT(b:Bool):Prop:=b=true∧True
abbrev gF(b:Bool):Prop:=b=false∧True
section
variable {D:List Deferred}
section
variable {P:Program} {a:Act} {w:World} {n:Nat} {l:SF} {M:Av}
end
section
variable {P:Program} {ops:Array Oper} {Q:Exit→Act→World→Prop} {fuel i j:Nat} {o o2:Oper} {listed:Array Bool} {a:Act} {w:World}
theorem PR{K:Value→World→Prop}(ho:ops[i]?=some o)(hg:o.guard=none)(hs:bc P o a w K)(hK:∀v w',K v w'→wpAny P .any ops Q fuel (listed.setIfInBounds i true) (a.put o.dst v) w'):wpOp P ops Q i (wpAny P .any ops Q fuel (listed.setIfInBounds i true)) a w:=by
 unfold wpOp;rw[ho];have hw:Region.wanted o (yielded ops a.tmps)=true:=by simp[Region.wanted,hg]
 simp only[hw,if_true];exact .inl (hs _ _ hK)
theorem L3{K:Value→World→Prop}(hr:Region.ready .any ops listed=[i])(ho:ops[i]?=some o)(hg:o.guard=none)(hs:bc P o a w K)(hK:∀v w',K v w'→wpAny P .any ops Q fuel (listed.setIfInBounds i true) (a.put o.dst v) w'):wpAny P .any ops Q (fuel+1) listed a w:=by
 refine⟨λh=>(by rw[hr]at h;cases h),λk hk=>?_⟩;rw[hr,List.mem_singleton]at hk;subst hk;exact PR ho hg hs hK
theorem a5b{K K2:Value→World→Prop}(hr:Region.ready .any ops listed=[i,j])(ho:ops[i]?=some o)(hg:o.guard=none)(qk:ops[j]?=some o2)(DT:o2.guard=none)(hs:bc P o a w K)(o6:bc P o2 a w K2)
  (hK:∀v w',K v w'→wpAny P .any ops Q fuel (listed.setIfInBounds i true) (a.put o.dst v) w')(L5:∀v w',K2 v w'→wpAny P .any ops Q fuel (listed.setIfInBounds j true) (a.put o2.dst v) w'):wpAny P .any ops Q (fuel+1) listed a w:=by
 refine⟨λh=>(by rw[hr]at h;cases h),λk hk=>?_⟩;rw[hr]at hk;rcases List.mem_cons.1 hk with rfl|hk
 ·exact PR ho hg hs hK
 ·rw[List.mem_singleton]at hk;subst hk;exact PR qk DT o6 L5
end
end
section
variable {P:Program} {N R:dx} {ES:List (Nat×dx)} {a:Act} {w:World}
def LW(P:Program)(c:Code)(Q:Exit→Act→World→Prop)(a:Act)(w:World):Prop:=
 ∀b k cs,∃e a' w',Q e a' w'∧Arrives P (lone (b.at a (.code c::.inLoop c::k)) cs w) b k cs e a' w'
theorem a5c{c:Code}(h:LW P c (Qs N ES R) a w):(Code.loop c).wp P (Qs N ES R) a w:=λb k cs=>
 let⟨e,a',w',hq,lu⟩:=h b k cs
 ⟨e,a',w',hq,.of_steps (.one step_loop) lu⟩
theorem a5d{c:Code}(h:c.wp P (Qs (λa w=>LW P c (Qs N ES R) a w) ES R) a w):LW P c (Qs N ES R) a w:=by
 intro b k cs;obtain⟨e,a₁,w₁,hq,lu⟩:=h b (.inLoop c::k) cs;cases e with
 |normal=>
  obtain⟨e₂,a₂,w₂,OX,OY⟩:=hq b k cs;exact⟨e₂,a₂,w₂,OX,.of_steps (Steps.trans lu (.one step_inLoop)) OY⟩
 |exit id=>exact⟨.exit id,a₁,w₁,hq,.pass (x:=.inLoop c) rfl (λ_ _=>.inl (by simp)) lu⟩
 |goto l=>exact⟨.goto l,a₁,w₁,hq,.pass (x:=.inLoop c) rfl (λ_ _=>.inl (by simp)) lu⟩
 |ret=>exact⟨.ret,a₁,w₁,hq,.pass (x:=.inLoop c) rfl (λ_ _=>.inl (by simp)) lu⟩
 |panic ch=>exact⟨.panic ch,a₁,w₁,hq,.pass (x:=.inLoop c) rfl (λ_ _=>.inl (by simp)) lu⟩
 |outgrown=>exact⟨.outgrown,a₁,w₁,hq,.pass (x:=.inLoop c) rfl (λ_ _=>.inl (by simp)) lu⟩
end
theorem Xi{P:Program}{N R:dx}{ES:List (Nat×dx)}{a:Act}{w:World}{c:Code}(M:dx)(h:c.wp P (Qs M ES R) a w)(h2:∀a w,M a w→N a w):c.wp P (Qs N ES R) a w:=
 wp_mono h λe a w q=>by cases e<;>first|exact h2 _ _ q|exact q
def aj.bI(k:IntKind)(b:Nat)(cs:List Value)(q:List Int)(n:Int):aj where
 fp:=[b]
 p:=λ_ w=>dh w b (cs++q.map (Value.int k))∧V.ln q=n
 kp:=λh kp _ hX=>⟨h.1.kp kp (hX b (by simp)),h.2⟩
 dB:=λh _=>h
 fresh:=λh=>h
 lt:=λh=>h.1.W8
def AW(q:List Int)(n:Nat):List Int:=(List.range n).map λ(i:Nat)=>gi q (i:Int)
section
variable {M:Av} {X:List Nat} {w0 w:World} {L:List aj} {k:IntKind} {b:Nat} {cs:List Value} {q:List Int} {n:Int}
theorem SH.bI(h:SH M X w0 L w)(i:Nat)(hk:L[i]?=some (.bI k b cs q n)):dh w b (cs++q.map (Value.int k))∧V.ln q=n:=h.at i hk
theorem SH.PS(hn:V.ln q=n)(h:SH M X w0 (.cq b (cs++q.map (Value.int k))::L) w):SH M X w0 (.bI k b cs q n::L) w:=
 ⟨h.kp,by have:=h.nd;rw[List.pairwise_cons]at this⊢;exact this,h.lo,h.nm,h.mx,λe he=>by
  rcases List.mem_cons.1 he with rfl|he
  ·exact⟨h.bk 0 rfl,hn⟩
  ·exact h.ps e (List.mem_cons_of_mem _ he)⟩
theorem SH.Xj(h:SH M X w0 (.bI k b cs q n::L) w):SH M X w0 (.cq b (cs++q.map (Value.int k))::L) w:=
 ⟨h.kp,by have:=h.nd;rw[List.pairwise_cons]at this⊢;exact this,h.lo,h.nm,h.mx,λe he=>by
  rcases List.mem_cons.1 he with rfl|he
  ·exact(h.bI 0 rfl).1
  ·exact h.ps e (List.mem_cons_of_mem _ he)⟩
theorem wN.ph{off:Nat}{i:Int}(h:dh w b (cs++q.map (Value.int k))∧V.ln q=n)(ho:cs.length=off)(hi:0≤i∧i<n):V.aQ ⟨b,off+i.toNat*1,none⟩ (.int k (gi q i)) w:=by
 refine h.1.aQ ?_;have hl:i.toNat<q.length:=by have:=h.2;unfold V.ln at this;omega
 rw[List.getElem?_append_right (by omega),ho,show off+i.toNat*1-off=i.toNat from by omega,List.getElem?_map,List.getElem?_eq_getElem hl];simp[gi,List.getD_eq_getElem?_getD,List.getElem?_eq_getElem hl]
theorem wN.Pe{off m:Nat}(h:dh w b (cs++q.map (Value.int k))∧V.ln q=n)(ho:cs.length=off)(hm:(m:Int)=n):V.cG b off (mz k q m) 0 w:=by
 refine h.1.cG _ 0 λi hi=>?_;have hi:i<m:=by simpa[mz]using hi
 have hl:i<q.length:=by have:=h.2;unfold V.ln at this;omega
 rw[List.getElem?_append_right (by omega),ho,show off+(0+i)-off=i from by omega,List.getElem?_map,List.getElem?_eq_getElem hl];simp[mz,gi,List.getD_eq_getElem?_getD,List.getElem?_eq_getElem hl]
end
section
variable {P:Program} {a:Act} {w:World} {nn:Nat} {l:SF} {M:Av} {D:List Deferred}
theorem a5e{d:Option Tmp}{E:TypeId}{ty:TypeId}{pos:String}{after:Array Edge}(k:IntKind)(cs:List Value)(q:List Int)(n:Int){z:Value}(hS:S0 M [] w)(hz:(P.info? E).map (·.zero)=some (some z))(hc:z.cells.toList=cs++q.map (Value.int k))(hn:V.ln q=n):
  bc P ⟨d,.alloc E,ty,pos,after,none⟩ a w λu w'=>∃b:Nat,u=.pointer (some ⟨b,0,none⟩)∧SH M (aG []) w [.bI k b cs q n] w':=
 bc.mono (nz _ hS hz hc) λ_ _ ⟨b,e,h⟩=>⟨b,e,h.PS hn⟩
theorem Xk{t:TypeId}{x y:Operand}{ty:TypeId}{pos:String}{after:Array Edge}{k:IntKind}{b off:Nat}{v:Value}{cs:List Value}{q:List Int}{m:Int}(sO:List Value)(H:ay D nn l a)(hS:S0 M [.bI k b cs q m] w)
  (hx:ev l [] x=some (.pointer (some ⟨b,off,none⟩)))(hy:ev l [] y=some v)
  (hz:(P.info? t).map (·.size)=some v.cells.toList.length)(h1:o8 v.cells.toList=true)(hl:Nat.ble (off+v.cells.toList.length) cs.length=true)(hs:iW cs off v.cells.toList=sO):
  bc P ⟨none,.store t x y,ty,pos,after,none⟩ a w λ_ w'=>SH M (aG [.bI k b cs q m]) w [.bI k b sO q m] w':=by
 have Xl:off+v.cells.toList.length≤cs.length:=by simpa using hl
 refine bc.mono (gn (sO++q.map (Value.int k)) H (show S0 M [.cq b (cs++q.map (Value.int k))] w from hS.Xj) hx hy hz h1 (by rw[Nat.ble_eq,List.length_append];omega) ?_) λ_ _ h=>SH.PS (hS.bI 0 rfl).2 h;rw[Pp _ _ _ _ Xl,hs]
theorem AX{t:TypeId}{x y:Operand}{ty:TypeId}{pos:String}{after:Array Edge}{k:IntKind}{b off:Nat}{ix v m:Int}{cs:List Value}{q:List Int}(H:ay D nn l a)(hS:S0 M [.bI k b cs q m] w)
  (hx:ev l [] x=some (.pointer (some ⟨b,off+ix.toNat*1,none⟩)))(hy:ev l [] y=some (.int k v))(hz:(P.info? t).map (·.size)=some 1)(ho:cs.length=off)(h0:0≤ix∧ix<m):
  bc P ⟨none,.store t x y,ty,pos,after,none⟩ a w λ_ w'=>SH M (aG [.bI k b cs q m]) w [.bI k b cs (aW q ix v) m] w':=by
 have hq:=(hS.bI 0 rfl).2;have hl:ix.toNat<q.length:=by unfold V.ln at hq;omega
 refine bc.mono (gn (cs++(aW q ix v).map (Value.int k)) H (show S0 M [.cq b (cs++q.map (Value.int k))] w from hS.Xj) hx hy hz rfl (by rw[Nat.ble_eq];simp[Value.cells];omega) ?_) λ_ _ h=>SH.PS (by rw[←hq];simp[V.ln,aW]) h;rw[show off+ix.toNat*1=cs.length+ix.toNat from by omega,Po];congr 1;simp[Value.cells,iW,aW,List.map_set]
theorem a5f{d:Nat}{t E:TypeId}{lo co:Operand}{zv:Value}{ty:TypeId}{pos:String}{after:Array Edge}{kl kc:IntKind}(m:Nat)(cs:List Value)(H:ay D nn l a)(hS:S0 M [] w)
  (hl:ev l [] lo=some (.int kl m))(hc:ev l [] co=some (.int kc m))(hu:P.underlying t=some (.slice E))(hi:(P.info? E).map (λi=>(Nat.ble i.bytes 128,i.zero))=some (true,some zv))
  (hs:(P.info? E).map (·.size)=some 1)(hb:Nat.ble m 1048576=true)(lr:(madeCells zv.cells (m*1)).toList=cs):
  bc P ⟨some d,.makeSlice t lo co,ty,pos,after,none⟩ a w λv w'=>∃b:Nat,v=.slice (some ⟨b,0,none⟩) m m∧SH M (aG []) w [.cq b cs] w':=by
 cases fO:P.info? E with
 |none=>simp[fO]at hi
 |some inf=>
  simp only[fO,Option.map_some,Option.some.injEq,Prod.mk.injEq]at hi hs;obtain⟨h2,h3⟩:=hi;have h2:inf.bytes≤128:=by simpa using h2
  have hb:m≤1048576:=by simpa using hb
  have AK:(inf.bytes:Int)*(m:Int)≤281474976710656:=by
   have:(inf.bytes:Int)*m≤128*1048576:=Int.mul_le_mul (by omega) (by omega) (by omega) (by omega);omega
  have hr:=run_make (P:=P) w t E inf zv hu fO h3 kl kc (m:Int) (m:Int) (by omega) (Int.le_refl _) AK (by omega);rw[Int.toNat_natCast,hs]at hr;have hN:=yF w cs E;have Pl:w.alloc (.cells (madeCells zv.cells (m*1)) E)=w.alloc (.cells ⟨cs⟩ E):=by rw[←lr]
  rw[Pl]at hr;refine bc.pa (v:=.slice (some ⟨w.heap.size,0,none⟩) m m) (w':=w.alloc (.cells ⟨cs⟩ E)) ?_ ⟨w.heap.size,rfl,SH.step hS hN.1 (by simp) (by simp[aG,aj.cq]) ?_⟩
  ·simp[execOp,H.ev (eZ a) hl,H.ev (eZ a) hc,hr]
  ·intro e he;rw[List.mem_singleton]at he;subst he;exact hN.2
theorem L6{d:Nat}{x:Operand}{nm:String}{args:Array Operand}{ns:Array TypeId}{ty:TypeId}{pos:String}{after:Array Edge}{f:FuncId}{T:TypeId}{rv:Value}{as:List Value}{R:Value→World→Prop}(H:ay D nn l a)
  (hx:ev l [] x=some (.iface T rv))(ha:lq l [] args.toList=some as)(hm:∀w,(method (P.types.size+Made.depth) T rv nm).run P w=.ok (f,rv) w)(hc:kW P f ⟨rv::as⟩ w R):
  bc P ⟨some d,.call ⟨.invoke x nm,args,ns⟩,ty,pos,after,none⟩ a w R:=λQ N hN=>by
 have hr:(execOp a.eval ⟨some d,.call ⟨.invoke x nm,args,ns⟩,ty,pos,after,none⟩).run P w=.ok (.enter f ⟨rv::as⟩) w:=by
  have h1:(#[Value.iface T rv]++(⟨as⟩:Array Value))[0]?=some (Value.iface T rv):=by simp
  have h2:(#[Value.iface T rv]++(⟨as⟩:Array Value)).extract 1 (#[Value.iface T rv]++(⟨as⟩:Array Value)).size=⟨as⟩:=by
   apply Array.ext';simp
  have h3:#[rv]++(⟨as⟩:Array Value)=⟨rv::as⟩:=by apply Array.ext';simp
  simp only[execOp,resolve,H.ev (eZ a) hx,yy H (eZ a) ha,Sem.run_bind,Sem.run_pure,Result.andThen_ok,invoke];rw[h1,h2];simp only[callMethod,Sem.run_bind,run_program,Result.andThen_ok,hm w,h3];exact hc.call w
 unfold Oper.wp;rw[hr];refine hc.run.mono ?_;rintro e w' ⟨v,rfl,hR⟩;exact hN _ _ hR
end
def cO:List Int:=0::(List.replicate 9 4++(1::4::2::3::List.replicate 242 4))
theorem Xm:V.ln cO=256:=by kernel_rfl
theorem Xn:gi cO 13=3:=by decide
theorem Xo:gi cO 12=2:=by decide
theorem Xp:gi cO 10=1:=by decide
theorem Xq:gi cO 0=0:=by decide
theorem Xr{x:Int}(h0:0≤x)(h1:x<256)(a:x≠13)(b:x≠12)(c:x≠10)(d:x≠0):gi cO x=4:=by
 have h:∀n:Fin 256,n.val=13∨n.val=12∨n.val=10∨n.val=0∨gi cO (n.val:Int)=4:=by decide+kernel
 have:=h ⟨x.toNat,by omega⟩;dsimp only at this;rw[show((x.toNat:Nat):Int)=x from by omega]at this;omega
theorem yU(s:List UInt8)(i:Int):0≤aI s i∧aI s i<256:=by
 unfold aI;have:=UInt8.toNat_lt (s.getD i.toNat 0);omega
structure AY(w:World)(g tb n1 n2 n3 n4:Nat):Prop where
 bg:dh w g (([.string ⟨⟨[]⟩⟩,.int .i64 0,.string ⟨⟨[]⟩⟩,.pointer none,.slice (some ⟨tb,0,none⟩) 4 4,.int .i64 4]:List Value)++cO.map (Value.int .u8))
 bt:dh w tb [.pointer (some ⟨n4,0,none⟩),.pointer none,.pointer (some ⟨n3,0,none⟩),.pointer (some ⟨n1,0,none⟩)]
 b1:dh w n1 [.string ⟨⟨[10]⟩⟩,.int .i64 6,.string ⟨⟨[10]⟩⟩,.pointer (some ⟨n2,0,none⟩),.slice none 0 0]
 b2:dh w n2 [.string ⟨⟨[10]⟩⟩,.int .i64 8,.string ⟨⟨[]⟩⟩,.pointer none,.slice none 0 0]
 b3:dh w n3 [.string ⟨⟨[10]⟩⟩,.int .i64 4,.string ⟨⟨[]⟩⟩,.pointer none,.slice none 0 0]
 b4:dh w n4 [.string ⟨⟨[239,191,189]⟩⟩,.int .i64 2,.string ⟨⟨[]⟩⟩,.pointer none,.slice none 0 0]
def aj.lE(g tb n1 n2 n3 n4:Nat):aj where
 fp:=[]
 p:=λM w=>AY w g tb n1 n2 n3 n4∧∀b∈[g,tb,n1,n2,n3,n4],¬M b
 kp:=λh k hM _=>by
  have hx:∀b∈[g,tb,n1,n2,n3,n4],b∉_:=λb hb hx=>h.2 b hb (hM b hx);exact⟨⟨h.1.bg.kp k (hx _ (by simp)),h.1.bt.kp k (hx _ (by simp)),h.1.b1.kp k (hx _ (by simp)),h.1.b2.kp k (hx _ (by simp)),h.1.b3.kp k (hx _ (by simp)),h.1.b4.kp k (hx _ (by simp))⟩,h.2⟩
 dB:=λh hM=>⟨h.1,λb hb hm=>h.2 b hb (hM b hm)⟩
 fresh:=λh=>⟨h.1,λb hb hm=>by
  rcases hm with hm|hm
  ·exact h.2 b hb hm
  ·simp only[List.mem_cons,List.not_mem_nil,or_false]at hb;rcases hb with rfl|rfl|rfl|rfl|rfl|rfl
   ·have:=h.1.bg.lt;omega
   ·have:=h.1.bt.lt;omega
   ·have:=h.1.b1.lt;omega
   ·have:=h.1.b2.lt;omega
   ·have:=h.1.b3.lt;omega
   ·have:=h.1.b4.lt;omega⟩
 lt:=λ_ b hb=>by cases hb
section
variable {M:Av} {X:List Nat} {w0 w:World} {L:List aj} {g tb n1 n2 n3 n4:Nat}
theorem SH.tr(h:SH M X w0 L w)(i:Nat)(hk:L[i]?=some (.lE g tb n1 n2 n3 n4)):AY w g tb n1 n2 n3 n4:=(h.at i hk).1
theorem Xs{L:List aj}(h:S0 F0 L w∧aG L=[])(hs:AY w g tb n1 n2 n3 n4):S0 F0 (.lE g tb n1 n2 n3 n4::L) w∧aG (.lE g tb n1 n2 n3 n4::L)=[]:=by
 have he:aG (.lE g tb n1 n2 n3 n4::L)=[]:=by simp[aG,aj.lE,h.2]
 refine⟨?_,he⟩;have o6:SH F0 (aG L) w (.lE g tb n1 n2 n3 n4::L) w:=h.1.add rfl ⟨hs,λb _ hm=>by
  rcases hm with hm|hm
  ·exact hm
  ·rw[h.2]at hm;cases hm⟩
 rw[h.2]at o6;show SH F0 (aG (.lE g tb n1 n2 n3 n4::L)) w _ w;rw[he];exact o6
end
def aj.cP(g:Nat):aj where
 fp:=[]
 p:=λM w=>(∃m:Int,w.cell? ⟨g,0,Option.none⟩=some (.int .i64 m))∧g<w.heap.size∧¬M g
 kp:=λh k hM _=>by
  obtain⟨⟨m,hm⟩,hl,hn⟩:=h;exact⟨⟨m,by rw[World.cell?_of_block (k.block g hl λhx=>hn (hM _ hx))];exact hm⟩,Nat.lt_of_lt_of_le hl k.size,hn⟩
 dB:=λh hM=>⟨h.1,h.2.1,λhm=>h.2.2 (hM _ hm)⟩
 fresh:=λh=>⟨h.1,h.2.1,λhm=>by
  rcases hm with hm|hm
  ·exact h.2.2 hm
  ·have:=h.2.1;omega⟩
 lt:=λ_ b hb=>by cases hb
section
variable {M:Av} {X:List Nat} {w0 w:World} {L:List aj} {g:Nat}
theorem SH.gi(h:SH M X w0 L w)(i:Nat)(hk:L[i]?=some (.cP g)):(∃m:Int,w.cell? ⟨g,0,none⟩=some (.int .i64 m))∧g<w.heap.size:=⟨(h.at i hk).1,(h.at i hk).2.1⟩
theorem lF{L:List aj}(h:S0 F0 L w∧aG L=[])(hs:(∃m:Int,w.cell? ⟨g,0,none⟩=some (.int .i64 m))∧g<w.heap.size):S0 F0 (.cP g::L) w∧aG (.cP g::L)=[]:=by
 have he:aG (.cP g::L)=[]:=by simp[aG,aj.cP,h.2]
 refine⟨?_,he⟩;have o6:SH F0 (aG L) w (.cP g::L) w:=h.1.add rfl ⟨hs.1,hs.2,λhm=>by
  rcases hm with hm|hm
  ·exact hm
  ·rw[h.2]at hm;cases hm⟩
 rw[h.2]at o6;show SH F0 (aG (.cP g::L)) w _ w;rw[he];exact o6
end
/-- A call from these things on; what it ends in may name them. -/
abbrev pr(P:Program)(f:FuncId)(args:Array Value)(L:List aj)(Q:Av→List Nat→World→Value→World→Prop):Prop:=
  ∀(M:Av)(w:World),S0 M L w→kW P f args w (Q M (aG L) w)
section
variable {D:List Deferred} {n:Nat} {M:Av} {X:List Nat} {w0:World} {l:SF} {L:List aj} {N R:dx} {ES:List (Nat×dx)} {P:Program} {Q:Exit→Act→World→Prop} {all:List Oper} {id:Nat}
theorem ql{f:FuncId}{fn:Func}{c:Code}{args:List Value}{q:Av→List Nat→World→Value→World→Prop}(hc:∀w,(callFunc f ⟨args⟩).run P w=.ok (.enter f ⟨args⟩) w)(hf:P.funcs[f]?=some fn)(hn:fn.ntmps=n)
    (h:∀(M:Av)(X:List Nat)(w:World),T [] n M X w (wx args 0) L λa w'=>c.wp P (Qs (Rp P fn λe w'=>∃v,e=.returned v∧q M X w v w') [] (Rp P fn λe w'=>∃v,e=.returned v∧q M X w v w')) a w')(hb:fn.body=some c:=by rfl)(hl:Nat.ble args.length n=true:=by rfl):pr P f ⟨args⟩ L q:=
  λM w hS=>⟨hc,lz hf hb hn hl λ_ H=>h M (aG L) w _ _ H hS⟩
theorem fo{c:Operand}{x y:Code}(h:T D n M X w0 l L λa w=>y.wp P (Qs N ES R) a w)(hc:ev l [] c=some (.bool false):=by rfl):
    T D n M X w0 l L λa w=>(Code.cond c x y).wp P (Qs N ES R) a w:=jG (λh=>by cases h) (λ_=>h) hc
theorem eJ{c:Operand}{x y:Code}(h:T D n M X w0 l L λa w=>x.wp P (Qs N ES R) a w)(hc:ev l [] c=some (.bool true):=by rfl):
    T D n M X w0 l L λa w=>(Code.cond c x y).wp P (Qs N ES R) a w:=jG (λ_=>h) (λh=>by cases h) hc
theorem dt{i d j:Nat}{op:Op}{ty:TypeId}{pos:String}{after:Array Edge}{want b:Bool}(s:Nat)(h:T D n M X w0 ((d,[],undef)::dl [d] l) L λa w=>wpList P all.toArray Q (all.drop (i+1)) a w)
    (ho:all[i]?=some ⟨some d,op,ty,pos,after,some (j,want)⟩:=by rfl)(hj:(all[j]?).bind (·.dst)=some s:=by rfl)(hg:dF l s=some ([],.bool b):=by rfl)(hb:(b==want)=false:=by rfl)(hd:Nat.blt d n=true:=by rfl)(hk:aV (jC l d [] undef) (d::ky (dl [d] l))=some ((d,[],undef)::dl [d] l):=by kernel_rfl):
    T D n M X w0 l L λa w=>wpList P all.toArray Q (all.drop i) a w:=
  λ_ _ H hS=>nD s _ _ H ho hj hg hb hd hk λ_ H'=>h _ _ H' hS
theorem GN{i d j:Nat}{op:Op}{ty:TypeId}{pos:String}{after:Array Edge}{want:Bool}(s:Nat)(h:T D n M X w0 ((d,[],undef)::dl [d] l) L λa w=>wpList P all.toArray Q (all.drop (i+1)) a w)
    (ho:all[i]?=some ⟨some d,op,ty,pos,after,some (j,want)⟩:=by rfl)(hj:(all[j]?).bind (·.dst)=some s:=by rfl)(hg:dF l s=some ([],undef):=by rfl)(hd:Nat.blt d n=true:=by rfl)(hk:aV (jC l d [] undef) (d::ky (dl [d] l))=some ((d,[],undef)::dl [d] l):=by kernel_rfl):
    T D n M X w0 l L λa w=>wpList P all.toArray Q (all.drop i) a w:=
  λ_ _ H hS=>a4u s _ _ H ho hj hg hd hk λ_ H'=>h _ _ H' hS
theorem yV{c:Code}(h:T D n M X w0 l L λa w=>LW P c (Qs N ES R) a w):T D n M X w0 l L λa w=>(Code.loop c).wp P (Qs N ES R) a w:=λ_ _ H hS=>a5c (h _ _ H hS)
theorem iR{c:Code}(h:T D n M X w0 l L λa w=>c.wp P (Qs (λa w=>LW P c (Qs N ES R) a w) ES R) a w):T D n M X w0 l L λa w=>LW P c (Qs N ES R) a w:=λ_ _ H hS=>a5d (h _ _ H hS)
end
end Go.V
