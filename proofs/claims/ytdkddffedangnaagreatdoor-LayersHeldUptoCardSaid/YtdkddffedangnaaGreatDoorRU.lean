/-
 What came in, with its size: readings opened, and how much of the bulk they take. Nothing here is a statement of this claim.
-/
import Derived.Test.YtdkddffedangnaaGreatDoorRows
import Derived.Test.YtdkddffedangnaaGreatDoorQ2
namespace Go.Proofs.YtdkddffedangnaaGreatDoor
open Go Go.V Go.RowKit
theorem one_le{H:Type}(d:DataW H):1≤Rows.uptoBulk d:=by
 cases d with
 |lit l=>cases l<;>simp[Rows.uptoBulk]
 |nil=>simp[Rows.uptoBulk]
 |ptr d=>simp[Rows.uptoBulk]
 |slice elems spare=>simp[Rows.uptoBulk]
 |agg parts=>simp[Rows.uptoBulk]
 |iface t d=>simp[Rows.uptoBulk]
 |map entries=>simp[Rows.uptoBulk]
 |held h=>simp[Rows.uptoBulk]
theorem a8t{H:Type}(s:List UInt8):Rows.uptoBulk (DataW.lit (H:=H) (.string s))=s.length+1:=by simp[Rows.uptoBulk]
theorem a8u{H:Type}(elems spare:List (DataW H)):Rows.uptoBulkAll elems+1≤Rows.uptoBulk (.slice elems spare):=by simp only[Rows.uptoBulk];omega
theorem a8v{H:Type}(parts:List (DataW H)):Rows.uptoBulk (.agg parts)=Rows.uptoBulkAll parts+1:=by simp only[Rows.uptoBulk]
theorem a8w{H:Type}:Rows.uptoBulkAll ([]:List (DataW H))=0:=by simp only[Rows.uptoBulkAll]
theorem a1i{H:Type}(d:DataW H)(r:List (DataW H)):Rows.uptoBulkAll (d::r)=Rows.uptoBulk d+Rows.uptoBulkAll r:=by simp only[Rows.uptoBulkAll]
def tD{H:Type}(P:Program)(W:World)(enc:TypeId×Value→H)(t:TypeId){α:Type}(T:Ty α)(wf:α→Prop)(bk:α→Nat):Prop:=
 ∀(n:Nat)(cs:List Value) x,DataW.trod enc P W 0 (λ_=>true) true n t cs=some x→∃(v:α)(g:Nat→Gh),cs=T.enc v g∧T.bP F0 W v g∧wf v∧bk v≤Rows.uptoBulk x.1
def yQ{H:Type}(K:Nat)(P:Program)(W:World)(enc:TypeId×Value→H)(t:TypeId){α:Type}(T:Ty α)(wf:α→Prop)(bk:α→Nat):Prop:=
 ∀(n:Nat),n<K→∀(cs:List Value) x,DataW.trod enc P W 0 (λ_=>true) true n t cs=some x→∃(v:α)(g:Nat→Gh),cs=T.enc v g∧T.bP F0 W v g∧wf v∧bk v≤Rows.uptoBulk x.1
def j0{α:Type}(bk:α→Nat)(l:List α):Nat:=(l.map bk).sum+1
section
variable {H:Type} {P:Program} {W:World} {enc:TypeId×Value→H}
theorem qx{t:TypeId}{α:Type}{T:Ty α}{wf:α→Prop}(h:Tz P W enc t T wf):tD P W enc t T wf λ_=>1:=λn cs x hx=>by
 obtain⟨v,g,h1,h2,h3⟩:=h n cs x hx;exact⟨v,g,h1,h2,h3,one_le _⟩
theorem BL{t:TypeId}(hu:P.underlying t=some .string):tD P W enc t tS (λv=>v.length≤maxLen) λv=>v.length+1:=by
 intro n cs x h;cases n with
 |zero=>simp[DataW.trod]at h
 |succ n=>
  unfold DataW.trod at h;rw[hu]at h;rcases cs with _|⟨c,_|⟨c2,r⟩⟩
  ·simp at h
  ·cases c<;>simp at h;rename_i s;obtain⟨h1,h2⟩:=h;refine⟨s.data.toList,λ_=>.nil,rfl,trivial,h1,?_⟩;rw[←h2,a8t];exact Nat.le_refl _
  ·simp at h
theorem a1j{α:Type}{bk:α→Nat}:∀(l:List α)(ds:List (DataW H)),l.length=ds.length→(∀i (h:i<l.length)(h2:i<ds.length),bk l[i]≤Rows.uptoBulk ds[i])→(l.map bk).sum≤Rows.uptoBulkAll ds
 |[],ds,_,_=>by simp
 |x::l,[],h,_=>by simp at h
 |x::l,d::ds,h,hi=>by
  have h0:=hi 0 (by simp) (by simp);have h1:=a1j (bk:=bk) l ds (by simpa using h) λi a b=>hi (i+1) (by simpa using a) (by simpa using b);rw[a1i];simp only[List.map_cons,List.sum_cons,List.getElem_cons_zero]at h0⊢;omega
theorem Em{K:Nat}{t e:TypeId}{α:Type}{T:Ty α}{wf:α→Prop}{bk:α→Nat}(hu:P.underlying t=some (.slice e))(hz:P.cellsOf e=T.z)(p7:Nat.blt 0 T.z=true)(he:yQ K P W enc e T wf bk):
  yQ (K+1) P W enc t (Ty.sl T) (λl=>l.length≤maxLen∧∀x∈l,wf x) (j0 bk):=by
 intro n0 Ks cs x h;have BC:0<T.z:=by simpa[Nat.blt,Nat.lt_iff_add_one_le]using p7
 obtain⟨n,rfl⟩:∃n,n0=n+1:=by
  cases n0 with
  |zero=>simp[DataW.trod]at h
  |succ n=>exact⟨n,rfl⟩
 unfold DataW.trod at h;rw[hu]at h;rcases cs with _|⟨c,_|⟨c2,r⟩⟩
 ·simp at h
 ·cases c<;>simp at h;rename_i a len cap;cases a with
  |none=>
   cases len with
   |zero=>
    cases cap with
    |zero=>exact⟨[],λ_=>.nil,rfl,aM.nil,by simp,by show 1≤_;exact one_le _⟩
    |succ k=>simp at h
   |succ k=>simp at h
  |some a=>
   simp only at h;split at h
   ·rename_i hb;obtain⟨elems,hel,h⟩:=Option.bind_eq_some_iff.1 h;have hx:∃sp,x.1=.slice (elems.map (·.1)) sp:=by
     obtain⟨sp,hsp,h⟩:=Option.map_eq_some_iff.1 h;exact⟨sp.map (·.1),by rw[←h]⟩
    have hlen:elems.length=len:=by
     have:=mapM_some_length hel;simpa using this
    have Kr:∀i,i<len→∃(v:α)(g:Nat→Gh),(∀j u,(T.enc v g)[j]?=some u→W.cell? (a.add (i*P.cellsOf e+j))=some u)∧T.bP F0 W v g∧wf v∧∀(h:i<elems.length),bk v≤Rows.uptoBulk elems[i].1:=by
     intro i hi;have h1:=mapM_some_get hel i i (by simp[hi]);rw[List.getElem?_eq_getElem (by omega)]at h1;obtain⟨ds,hc,ht⟩:=Option.bind_eq_some_iff.1 h1;obtain⟨v,g,Bx,jo,hw,hbk⟩:=he n (by omega) ds _ ht;obtain⟨_,hl,a8x⟩:=World.cells?_some hc;refine⟨v,g,λj u hj=>?_,jo,hw,λ_=>hbk⟩;have SC:j<ds.length:=by
      rw[Bx];rcases Nat.lt_or_ge j (T.enc v g).length with h|h
      ·exact h
      ·rw[List.getElem?_eq_none h]at hj;cases hj
     have:=a8x j (by omega);rw[←Addr.add_add,this,Bx];exact hj
    obtain⟨l,s,hll,KH⟩:=a7v (n:=len) (λi (v:α)(g:Nat→Gh)=>(∀j u,(T.enc v g)[j]?=some u→W.cell? (a.add (i*P.cellsOf e+j))=some u)∧T.bP F0 W v g∧wf v∧∀(h:i<elems.length),bk v≤Rows.uptoBulk elems[i].1) Kr;have U3:0<len→a=⟨a.block,a.off,none⟩∧a.block<W.heap.size:=λh0=>by
     obtain⟨h1,_,_⟩:=KH 0 (by omega);have rT:0<(T.enc (l[0]'(by omega)) (s 0)).length:=by rw[T.len];exact BC
     have h2:=h1 0 _ (List.getElem?_eq_getElem rT);have h3:a.spot=none:=by simpa[Addr.add]using World.cell?_spot h2
     refine⟨?_,by simpa[Addr.add]using a0T h2⟩;obtain⟨b,o,sp⟩:=a;cases h3;rfl
    refine⟨l,λ_=>.mk (some a) cap (λi=>s i),by show _=[Value.slice (some a) l.length cap];rw[hll],⟨⟨λh0=>?_,λh0=>?_,λ_ h=>h.elim,λi hi j u hj=>?_,?_⟩,λi hi=>(KH i (by omega)).2.1⟩,⟨?_,λx hx=>?_⟩,?_⟩
    ·exact(congrArg some (U3 (by omega)).1)
    ·exact(U3 (by omega)).2
    ·have h1:=(KH i (by omega)).1 j u hj;rw[(U3 (by omega)).1]at h1;rw[←hz];rw[Addr.a7u]at h1;simpa[ab,ao,Gh.a,Nat.add_assoc]using h1
    ·show l.length≤cap;omega
    ·show l.length≤maxLen;omega
    ·obtain⟨i,hi,rfl⟩:=List.mem_iff_getElem.1 hx;exact(KH i (by omega)).2.2.1
    ·obtain⟨sp,hsp⟩:=hx;rw[hsp];have h1:=a1j (bk:=bk) l (elems.map (·.1)) (by simp;omega) λi a b=>by
      have:=(KH i (by omega)).2.2.2 (by simpa using b);simpa using this
     have h2:=a8u (elems.map (·.1)) sp;show(l.map bk).sum+1≤_;omega
   ·cases h
 ·simp at h
theorem BM{t e:TypeId}{α:Type}{T:Ty α}{wf:α→Prop}{bk:α→Nat}(hu:P.underlying t=some (.slice e))(hz:P.cellsOf e=T.z)(p7:Nat.blt 0 T.z=true)(he:tD P W enc e T wf bk):
  tD P W enc t (Ty.sl T) (λl=>l.length≤maxLen∧∀x∈l,wf x) (j0 bk):=λn cs x h=>Em (K:=n) hu hz p7 (λn' _=>he n') n (Nat.lt_succ_self n) cs x h
theorem a1k:∀(ds:List (DataW H))(f:Nat→Nat),(∀i (h:i<ds.length),f i=Rows.uptoBulk ds[i])→Rows.uptoBulkAll ds=((List.range ds.length).map f).sum
 |[],f,_=>by rw[a8w];rfl
 |d::ds,f,h=>by
  have h0:=h 0 (by simp);have h1:=a1k ds (λi=>f (i+1)) λi hi=>h (i+1) (by simpa using hi);rw[a1i,h1,List.length_cons,List.range_succ_eq_map,List.map_cons,List.sum_cons,h0,List.map_map];rfl
theorem En{n:Nat}{t:TypeId}{fs:Array Field}{cs:List Value}{x:DataW H×List MemPlace}(hu:P.underlying t=some (.struct fs))(h:DataW.trod enc P W 0 (λ_=>true) true n t cs=some x):
  ∃k,n=k+1∧cs.length=P.cellsOf t∧∃(y:Nat→DataW H×List MemPlace),(∀(i:Nat)(f:Field),fs[i]?=some f→DataW.trod enc P W 0 (λ_=>true) true k f.type ((cs.drop f.offset).take (P.cellsOf f.type))=some (y i))∧Rows.uptoBulk x.1=((List.range fs.size).map λi=>Rows.uptoBulk (y i).1).sum+1:=by
 obtain⟨xs,k,rfl,rfl,hl,hx,hf⟩:=DataW.trod_struct hu h;refine⟨k,rfl,hl,λi=>xs.getD i (.nil,[]),λi f hi=>(hf i f hi).trans ?_,?_⟩
 ·have:i<xs.length:=by rw[hx];exact(Array.getElem?_eq_some_iff.1 hi).1
  rw[List.getElem?_eq_getElem this];simp[List.getD,List.getElem?_eq_getElem this]
 ·show Rows.uptoBulk (.agg (xs.map (·.1)))=_;rw[a8v,a1k (xs.map (·.1)) (λi=>Rows.uptoBulk (xs.getD i (.nil,[])).1) (λi hi=>by
   have lI:i<xs.length:=by simpa using hi
   simp[List.getD,List.getElem?_eq_getElem lI]),List.length_map,hx]
theorem Ht{n:Nat}{t:TypeId}{fs:Array Field}{cs:List Value}{x:DataW H×List MemPlace}(hu:P.underlying t=some (.struct fs))(h:DataW.trod enc P W 0 (λ_=>true) true n t cs=some x):
  cs.length=P.cellsOf t∧∃(y:Nat→DataW H×List MemPlace),(∀(i:Nat)(f:Field),fs[i]?=some f→∃k,DataW.trod enc P W 0 (λ_=>true) true k f.type ((cs.drop f.offset).take (P.cellsOf f.type))=some (y i))∧Rows.uptoBulk x.1=((List.range fs.size).map λi=>Rows.uptoBulk (y i).1).sum+1:=by
 obtain⟨k,_,hl,y,hf,hb⟩:=En hu h;exact⟨hl,y,λi f hi=>⟨k,hf i f hi⟩,hb⟩
end
end Go.Proofs.YtdkddffedangnaaGreatDoor
