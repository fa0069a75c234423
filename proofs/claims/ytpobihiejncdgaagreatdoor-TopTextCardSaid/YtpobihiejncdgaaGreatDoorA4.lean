/-
 What came in, as the walks want it: readings opened. Nothing here is a statement of this claim.
-/
import Derived.Test.YtpobihiejncdgaaGreatDoorA2
import Derived.DataReads
import Derived.ChangeOld
import Derived.ChangeArms
import Derived.Lib.LaidU8
import Derived.Test.YtpobihiejncdgaaGreatDoorA3
import Derived.Test.YtpobihiejncdgaaGreatDoorA1
import Derived.Lib.Mul64
import Derived.Test.YtpobihiejncdgaaGreatDoorRQ
import Derived.Tactics
import Derived.Tactics2
import Derived.Defers
import Derived.Laws.Pointers
import Derived.Laws.LoneSync
import Derived.RegionTactic
import Derived.RegionCalls
import Derived.ChangeAlike
set_option linter.unusedVariables false
set_option maxRecDepth 20000
set_option maxHeartbeats 4000000
namespace Go.V
open Go Go.RowKit
theorem Y9{w:World}{a:Addr}{v:Value}(h:w.cell? a=some v):a.block<w.heap.size:=by
 unfold World.cell? at h;rcases Nat.lt_or_ge a.block w.heap.size with h1|h1
 ·exact h1
 ·rw[Array.getElem?_eq_none h1]at h;simp at h
section
variable {H:Type} {P:Program} {W:World} {enc:TypeId×Value→H}
end
theorem a7J{P:Program}{W:World}{name:String}{k:IntKind}{zs:List Int}{g:Nat}{t e:TypeId}{n:Nat}
  (hg:P.globalNamed name=some g)(Qp:(P.globals[g]?).map (·.type)=some t)(ht:P.underlying t=some (.array n e))(he:P.underlying e=some (.int k))(Aq:P.cellsOf e=1)(Qq:P.cellsOf t=n)
  (hn:zs.length=n)(h:Lib.VarReads P W name (Lib.tabData k zs))(lx:Nat.blt 0 n=true):cI (tI k) F0 W zs (Gh.mk (some ⟨g,0,none⟩) n λ_ _=>.nil):=by
 obtain⟨g',t',cs,fuel,p,p9,Hi,Qr,hd⟩:=h;obtain rfl:=Option.some.inj (hg.symm.trans p9);obtain rfl:=Option.some.inj (Qp.symm.trans Hi);have DU:Lib.TabIs P W name k zs:=by unfold Lib.TabIs;rw[Qr,←Lib.cells_of_tab ht he Aq Qq hd]
 have hp:0<n:=by simpa[Nat.blt,Nat.lt_iff_add_one_le]using lx
 refine⟨⟨λ_=>rfl,λ_=>?_,λ_ h=>h.elim,λi hi j v hv=>?_,Nat.le_of_eq hn⟩,λi hi=>trivial⟩
 ·exact Y9 (DU.cell hg 0 (by omega))
 ·have hj:j=0:=by
   rcases j with _|j
   ·rfl
   ·simp[tI,Ty.flat]at hv
  subst hj;have h1:v=.int k zs[i]:=by simpa[tI,Ty.flat]using hv.symm
  subst h1;have:=DU.cell hg i hi;have h2:zs.getD i 0=zs[i]:=by simp[List.getD,List.getElem?_eq_getElem hi]
  rw[h2]at this;have h3:i*(tI k).z=i:=Nat.mul_one i;show W.cell? ⟨g,0+i*(tI k).z+0,none⟩=_;rw[h3,Nat.zero_add];exact this
theorem a7K{P:Program}{f:FuncId}{args:Array Value}{v:Value}{w:World}{L:List aj}(hL:S0 F0 L w∧aG L=[])(h:S0 F0 L w→Calls P f args w λe kB=>∃u,e=.returned u∧u=v∧SH F0 (aG L) w [] kB):
  Calls P f args w (Pure v w):=by
 refine(h hL.1).mono ?_;rintro e kB ⟨u,rfl,rfl,hS⟩;refine⟨rfl,?_⟩;have:=hS.kp;rw[hL.2]at this;exact this.below
theorem a7L{P:Program}{W:World}{name:String}{g:Nat}{cs:Array Value}(hg:P.globalNamed name=some g)(h:W.var? P name=some cs):∃T fr,W.heap[g]?=some (.cells cs T fr):=by
 unfold World.var? at h;rw[hg,Option.bind_some]at h;split at h
 ·rename_i sO T fr he;exact⟨T,fr,by rw[he,Option.some.inj h]⟩
 ·cases h
theorem a7M{P:Program}{W:World}{name:String}{k:IntKind}{zs:List Int}{g:Nat}{t e:TypeId}{n:Nat}
  (hg:P.globalNamed name=some g)(Qp:(P.globals[g]?).map (·.type)=some t)(ht:P.underlying t=some (.array n e))(he:P.underlying e=some (.int k))(Aq:P.cellsOf e=1)(Qq:P.cellsOf t=n)
  (h:Lib.VarReads P W name (Lib.tabData k zs)):(aj.mD g (zs.map λz=>Value.int k z)).p F0 W:=by
 obtain⟨g',t',cs,fuel,p,p9,Hi,Qr,hd⟩:=h;obtain rfl:=Option.some.inj (hg.symm.trans p9);obtain rfl:=Option.some.inj (Qp.symm.trans Hi);have hc:=Lib.cells_of_tab ht he Aq Qq hd;obtain⟨T,fr,hh⟩:=a7L hg Qr;refine⟨⟨T,fr,?_⟩,λh=>h⟩;obtain⟨l⟩:=cs;have hc:l=zs.map λz=>Value.int k z:=hc;rw[hh,hc]
end Go.V
namespace Go.V
open Go
theorem cT{x:Int}(h:-9223372036854775808≤x)(h':x<9223372036854775808):aa x=x:=by
 show IntKind.i64.wrap x=x;unfold IntKind.wrap;simp only[IntKind.bits,IntKind.signed,Bool.true_and];split<;>rename_i hh<;>simp only[ge_iff_le,decide_eq_true_eq]at hh<;>omega
theorem a7N(s:J):ln (ax s)=ln s:=by simp[ln,ax]
theorem iq{α:Type}[Inhabited α](l:List α)(i:Nat)(h:i<l.length):gi l (i:Int)=l[i]:=by
 simp[gi,List.getD_eq_getElem?_getD,List.getElem?_eq_getElem h]
theorem wT(s:J)(i:Nat)(h:i<s.length):aI s (i:Int)=(s[i].toNat:Int):=by
 simp[aI,List.getD_eq_getElem?_getD,List.getElem?_eq_getElem h]
theorem LK(l:List Int)(i:Nat)(v:Int):aW l (i:Int) v=l.set i v:=by simp[aW]
theorem a7O(x:Int):bY x=x%18446744073709551616:=by
 show IntKind.u64.wrap x=_;simp[IntKind.wrap,IntKind.bits,IntKind.signed]
theorem Ya{x:Int}(h:0≤x)(h':x<18446744073709551616):bY x=x:=by rw[a7O];exact Int.emod_eq_of_lt h h'
theorem Yb(x:Int):bj x=x%256:=by
 show IntKind.u8.wrap x=_;simp[IntKind.wrap,IntKind.bits,IntKind.signed]
theorem rH{x:Int}(h:0≤x)(h':x<256):bj x=x:=by rw[Yb];exact Int.emod_eq_of_lt h h'
theorem Qt{x y:Int}(_h:0≤x)(hy:0≤y):Int.fdiv x y=x/y:=Int.fdiv_eq_ediv_of_nonneg x hy
theorem E1{x y:Int}(h:0≤x):Int.tdiv x y=x/y:=Int.tdiv_eq_ediv_of_nonneg h
theorem LL{x y:Int}(h:0≤x):Int.tmod x y=x%y:=Int.tmod_eq_emod_of_nonneg h
theorem dM{α:Type}{l:List α}{i:Nat}(h:i<l.length):decide ((i:Int)<ln l)=true:=by simp[ln,h]
theorem eS{α:Type}{l:List α}{i:Nat}(h:l.length≤i):decide ((i:Int)<ln l)=false:=by simp[ln];omega
theorem dN{α β:Type}{l:List α}{i:Nat}{k:Option β}(h:i<l.length):aB (0≤(i:Int)∧(i:Int)<ln l) k=k:=by
 unfold aB;rw[if_pos ⟨by omega,by unfold ln;omega⟩]
theorem aL{β:Type}{p:Prop}[Decidable p]{k:Option β}(h:p):aB p k=k:=by unfold aB;rw[if_pos h]
theorem br{i:Nat}(h:i<4611686018427387904):aa ((i:Int)+1)=((i+1:Nat):Int):=by rw[cT (by omega) (by omega)];rfl
theorem lt_eq{α β:Type}(e:α)(f:α→β):lt e f=f e:=rfl
theorem ai{α β:Type}(a:α)(f:α→Option β):Option.bind (some a) f=f a:=rfl
theorem ae{α:Sort _}(a b:α):cond false a b=b:=rfl
theorem af{α:Sort _}(a b:α):cond true a b=a:=rfl
theorem bE{α:Type}[BEq α][LawfulBEq α]{a b:α}:(a==b)=false↔a≠b:=beq_eq_false_iff_ne
theorem bV{p:Prop}[Decidable p](h:¬p):decide p=false:=decide_eq_false h
theorem bC{p:Prop}[Decidable p](h:p):decide p=true:=decide_eq_true h
theorem aZ{α:Type}{a:α}{l:List α}:(a::l).length=l.length+1:=rfl
theorem bB{α:Type}{a b:List α}:(a++b).length=a.length+b.length:=List.length_append
theorem bW{α:Type}:([]:List α).length=0:=rfl
theorem gp{α:Type}{i:Nat}{l:List α}(h:i<l.length):l.drop i=l[i]::l.drop (i+1):=List.drop_eq_getElem_cons h
theorem fF{α:Type}{l:List α}{i:Nat}(h:l.length≤i):l.drop i=[]:=List.drop_eq_nil_of_le h
theorem fG{α:Type}{l:List α}:l.drop 0=l:=rfl
theorem cF(n:Nat):n≤n:=Nat.le_refl n
theorem dK:(!true)=false:=rfl
theorem j8:(!false)=true:=rfl
theorem dE(n:Nat):0≤n:=Nat.zero_le n
theorem gS{p:Prop}[Decidable p](h:decide p=true):p:=of_decide_eq_true h
theorem c7{α:Type}(a b c:List α):a++b++c=a++(b++c):=List.append_assoc a b c
theorem a7P{α:Type}{l:List α}(h:l.length=0):l=[]:=List.eq_nil_of_length_eq_zero h
theorem E3(b:Bool):(true&&b)=b:=Bool.true_and b
theorem B9(b:Bool):(b&&true)=b:=Bool.and_true b
theorem gr(b:Bool):(false||b)=b:=rfl
theorem pw:∀{x y:Bool},(x||y)=false↔x=false∧y=false:=Bool.or_eq_false_iff
end Go.V
namespace Go.Proofs.YtpobihiejncdgaaGreatDoor
open Go.V Go.RowKit
def rI(c:UInt8):J:=if c=13∨c=12 then[10]else if c=0 then[239,191,189]else[c]
def fQ:Bool→J→J
 |_,[]=>[]
 |p,c::r=>if p=true∧c=10 then fQ false r else rI c++fQ (decide (c=13)) r
theorem Qu(c:UInt8)(r:J):fQ false (c::r)=rI c++fQ (decide (c=13)) r:=by simp[fQ]
theorem a7Q:∀{r:J},(∀r2,r≠10::r2)→fQ true r=fQ false r
 |[],_=>rfl
 |c::r,h=>by
  have:c≠10:=λe=>h r (by rw[e]);simp[fQ,this]
theorem E4(s:J)(i:Nat)(h:i≤s.length):sub s (i:Int) (ln s)=s.drop i:=by
 simp only[sub,ln,Int.toNat_natCast];rw[List.take_of_length_le (by simp)]
theorem a7R(s:J)(i j:Nat):sub s (i:Int) (j:Int)=(s.drop i).take (j-i):=by simp[sub]
theorem Yc(a c:J):ax (a++c)=ax a++ax c:=by simp[ax]
theorem Yd(d:UInt8)(r:J):GZ (d::r) [10]=some (d==10):=by
 have e:(ln ([10]:J))≤ln (d::r):=by simp[ln];omega
 unfold GZ Ly;rw[aL (by intro _;exact⟨by decide,e⟩),lt_eq,decide_eq_true e];simp[sub,ln]
theorem a7S:ot []=some ([],0,false):=rfl
theorem o4(c:UInt8)(r:J):sub (c::r) 1 (ln (c::r))=r:=by
 have:=E4 (c::r) 1 (by simp);simpa using this
theorem a7T(r:J):ot (12::r)=some ([10],1,true):=by
 unfold ot;rw[lv (show((12::r:J)==[])=false from rfl),aL ⟨by omega,by simp[ln]<;>omega⟩,lv (show decide (aI (12::r) 0=13)=false from rfl),qb (show decide (aI (12::r) 0=12)=true from rfl),aL ⟨by omega,by simp[ln]<;>omega⟩];cases(sub (12::r) 1 (ln (12::r))==[])<;>rfl
theorem a7U(r:J):ot (0::r)=some ([239,191,189],1,true):=by
 unfold ot;rw[lv (show((0::r:J)==[])=false from rfl),aL ⟨by omega,by simp[ln]<;>omega⟩,lv (show decide (aI (0::r) 0=13)=false from rfl),lv (show decide (aI (0::r) 0=12)=false from rfl),lv (show decide (aI (0::r) 0=10)=false from rfl),qb (show decide (aI (0::r) 0=0)=true from rfl),aL ⟨by omega,by simp[ln]<;>omega⟩];cases(sub (0::r) 1 (ln (0::r))==[])<;>rfl
theorem a7V:ot [13]=some ([10],1,true):=by kernel_rfl
theorem a7W(r:J):ot (13::10::r)=some ([10],2,true):=by
 unfold ot;rw[lv (show((13::10::r:J)==[])=false from rfl),aL ⟨by omega,by simp[ln]<;>omega⟩,qb (show decide (aI (13::10::r) 0=13)=true from rfl),aL ⟨by omega,by simp[ln]<;>omega⟩,o4,
  lv (show((10::r:J)==[])=false from rfl),Yd]
 simp only[Option.bind_some];rw[qb (show((10:UInt8)==10)=true from rfl),aL ⟨by omega,by simp[ln]<;>omega⟩,lt_eq,o4];cases(r==[])<;>rfl
theorem a7X(d:UInt8)(r:J)(h:d≠10):ot (13::d::r)=some ([10],1,true):=by
 unfold ot;rw[lv (show((13::d::r:J)==[])=false from rfl),aL ⟨by omega,by simp[ln]<;>omega⟩,qb (show decide (aI (13::d::r) 0=13)=true from rfl),aL ⟨by omega,by simp[ln]<;>omega⟩,o4,
  lv (show((d::r:J)==[])=false from rfl),Yd]
 simp only[Option.bind_some];rw[lv (show(d==10)=false from by simpa using h)]
theorem a7Y(c:UInt8)(r:J)(hc:c=13∨c=12∨c=0):∃(v:J)(k:Nat),ot (c::r)=some (v,(k:Int),true)∧1≤k∧k≤2∧k≤r.length+1∧v.length≤3∧fQ false (c::r)=v++fQ false ((c::r).drop k):=by
 rcases hc with rfl|rfl|rfl
 ·cases r with
  |nil=>exact⟨[10],1,a7V,by simp,by simp,by simp,by simp,rfl⟩
  |cons d r=>
   by_cases h:d=10
   ·subst h;exact⟨[10],2,a7W r,by simp,by simp,by simp,by simp,by simp[fQ,rI]⟩
   ·refine⟨[10],1,a7X d r h,by simp,by simp,by simp,by simp,?_⟩;rw[Qu,List.drop_one,List.tail_cons];show[10]++fQ true (d::r)=_;rw[a7Q (λr2 e=>h (by injection e))]
 ·exact⟨[10],1,a7T r,by simp,by simp,by simp,by simp,by simp[fQ,rI]⟩
 ·exact⟨[239,191,189],1,a7U r,by simp,by simp,by simp,by simp,by simp[fQ,rI]⟩
theorem Qv(w:List Int)(t:J)(h:w.length+t.length≤1099511627776):wR w t=some (ln t,w++ax t):=by
 unfold wR;rw[aL (by unfold ln;omega),lt_eq]
theorem a7Z(s:J)(i:Nat)(h:i<s.length):aI s (i:Int)=((s[i]).toNat:Int):=wT s i h
theorem LM(c:UInt8)(n:Nat)(hn:n<256):decide ((c.toNat:Int)=(n:Int))=decide (c=UInt8.ofNat n):=by
 have:((c.toNat:Int)=(n:Int))↔c=UInt8.ofNat n:=by
  constructor
  ·intro h;have:c.toNat=n:=by omega
   rw[←this];simp
  ·intro h;subst h;simp[Nat.mod_eq_of_lt hn]
 exact decide_eq_decide.2 this
theorem d13(c:UInt8):decide ((c.toNat:Int)=13)=decide (c=13):=LM c 13 (by omega)
theorem d12(c:UInt8):decide ((c.toNat:Int)=12)=decide (c=12):=LM c 12 (by omega)
theorem d10(c:UInt8):decide ((c.toNat:Int)=10)=decide (c=10):=LM c 10 (by omega)
theorem d0(c:UInt8):decide ((c.toNat:Int)=0)=decide (c=0):=LM c 0 (by omega)
theorem a81(s:J)(l i:Nat)(hl:l≤i)(hi:i<s.length):(s.drop l).take (i+1-l)=(s.drop l).take (i-l)++[s[i]]:=by
 rw[show i+1-l=(i-l)+1 from by omega,List.take_succ_eq_append_getElem (by simp;omega)];congr 2;rw[List.getElem_drop];congr 1;omega
theorem a82(m:Nat)(s:J)(hs:s.length≤1000000):∀(kk i l:Nat)(n:Int)(B:List Int),l≤i→i≤s.length+1→l≤s.length→s.length+2-i≤kk→B.length≤3*l→
  ∃(n':Int)(l':Nat)(B':List Int),qw m s kk n (l:Int) false (i:Int) B=some (.inr (n',(l':Int),B'))∧l'≤s.length∧B'.length≤3*l'∧
   B'++ax (s.drop l')=B++ax ((s.drop l).take (i-l))++ax (fQ false (s.drop i)):=by
 intro kk
 induction kk with
 |zero=>intro i l n B h1 h2 h3 h4;omega
 |succ kk ih=>
  intro i l n B h1 h2 h3 h4 h5;have goto:∀(q:Nat),i≤s.length→q=i+1→aa ((i:Int)+1)=((q:Nat):Int):=λq hq e=>by rw[cT (by omega) (by omega),e];omega
  rw[qw,aL rfl];by_cases hlen:i≤s.length
  ·rw[qb (decide_eq_true (by unfold ln;omega))];by_cases he:i=s.length
   ·
    subst he;rw[lv (show cond ((s.length:Int) !=ln s) true false=false from by simp[ln])];simp only[Option.bind_some,eY];rw[aL ⟨by omega,by unfold ln;omega⟩,E4 _ _ (Nat.le_refl _),List.drop_length,a7S];simp only[Option.bind_some];rw[aL (show(cond false ((0:Int)==0) false)=false from rfl),lv rfl,goto _ (Nat.le_refl _) rfl];obtain⟨n',l',B',e1,e2,e3,e4⟩:=ih (s.length+1) l n B (by omega) (by omega) h3 (by omega) h5;refine⟨n',l',B',e1,e2,e3,?_⟩;rw[e4];rw[List.take_of_length_le (by simp;omega),List.take_of_length_le (by simp),List.drop_eq_nil_of_le (show s.length≤s.length+1 from by omega)]
   ·have hi:i<s.length:=by omega
    rw[qb (show cond ((i:Int) !=ln s) true false=true from by simp[ln];omega),aL ⟨by omega,by unfold ln;omega⟩,a7Z s i hi,d13,d12,d10,d0];have hd:s.drop i=s[i]::s.drop (i+1):=List.drop_eq_getElem_cons hi
    -- what is written as it is
    have plain:s[i]≠13→s[i]≠12→s[i]≠0→∃(n':Int)(l':Nat)(B':List Int),qw m s kk n (l:Int) false (aa ((i:Int)+1)) B=some (.inr (n',(l':Int),B'))∧l'≤s.length∧B'.length≤3*l'∧
      B'++ax (s.drop l')=B++ax ((s.drop l).take (i-l))++ax (fQ false (s.drop i)):=λa b c=>by
     rw[goto _ hlen rfl];obtain⟨n',l',B',e1,e2,e3,e4⟩:=ih (i+1) l n B (by omega) (by omega) h3 (by omega) h5;refine⟨n',l',B',e1,e2,e3,?_⟩;rw[e4,a81 s l i h1 hi,hd,Qu];simp[rI,a,b,c,Yc];rfl
    -- what is found
    have hit:(s[i]=13∨s[i]=12∨s[i]=0)→∃(n':Int)(l':Nat)(B':List Int),(aB (0≤(i:Int)∧(i:Int)≤ln s)<|
      Option.bind (ot (sub s (i:Int) (ln s))) λfE=>
      aB (cond fE.2.2 (fE.2.1==0) false=false)<|
      cond fE.2.2 (
      aB (0≤(l:Int)∧(l:Int)≤(i:Int)∧(i:Int)≤ln s)<|
      Option.bind (wR B (sub s (l:Int) (i:Int))) λil=>
      Option.bind (wR il.2 fE.1) λsZ=>
      qw m s kk (aa (aa (n+il.1)+sZ.1)) (aa ((i:Int)+fE.2.1)) false (aa ((i:Int)+fE.2.1)) sZ.2) (
      qw m s kk n (l:Int) false (aa ((i:Int)+1)) B))=some (.inr (n',(l':Int),B'))∧l'≤s.length∧B'.length≤3*l'∧
      B'++ax (s.drop l')=B++ax ((s.drop l).take (i-l))++ax (fQ false (s.drop i)):=λhc=>by
     obtain⟨v,k,a1,a2,a3,a4,a5,a6⟩:=a7Y s[i] (s.drop (i+1)) hc;rw[aL ⟨by omega,by unfold ln;omega⟩,E4 _ _ hlen,hd,a1];simp only[Option.bind_some];rw[aL (by show((k:Int)==0)=false;simp;omega),qb rfl,aL ⟨by omega,by omega,by unfold ln;omega⟩,a7R,
      Qv _ _ (by simp;omega)]
     simp only[Option.bind_some];rw[Qv _ _ (by simp[ax];omega)];simp only[Option.bind_some];have hk:k≤s.length-i:=by have:=List.length_drop (i:=i+1) (l:=s);omega
     rw[show aa ((i:Int)+(k:Int))=((i+k:Nat):Int)from by rw[cT (by omega) (by omega)];omega];obtain⟨n',l',B',e1,e2,e3,e4⟩:=ih (i+k) (i+k) _ (B++ax ((s.drop l).take (i-l))++ax v) (Nat.le_refl _) (by omega) (by omega) (by omega) (by simp[ax];omega);refine⟨n',l',B',e1,e2,e3,?_⟩;rw[e4,a6];simp only[Nat.sub_self,List.take_zero,Yc];have dw:(s[i]::s.drop (i+1)).drop k=s.drop (i+k):=by rw[←hd,List.drop_drop]
     rw[dw];simp[ax]
    by_cases Hj:s[i]=13
    ·rw[qb (decide_eq_true Hj)];simp only[Option.bind_some,eY];exact hit (.inl Hj)
    ·rw[lv (decide_eq_false Hj)];by_cases Ba:s[i]=12
     ·rw[qb (decide_eq_true Ba)];simp only[Option.bind_some,eY];exact hit (.inr (.inl Ba))
     ·rw[lv (decide_eq_false Ba)];by_cases Qw:s[i]=10
      ·rw[qb (decide_eq_true Qw)];obtain⟨n',l',B',e1,e2⟩:=plain Hj Ba (by rw[Qw];decide);rw[e1];exact⟨n',l',B',rfl,e2⟩
      ·rw[lv (decide_eq_false Qw)];by_cases c0:s[i]=0
       ·rw[qb (decide_eq_true c0)];simp only[Option.bind_some,eY];exact hit (.inr (.inr c0))
       ·rw[lv (decide_eq_false c0)];obtain⟨n',l',B',e1,e2⟩:=plain Hj Ba c0;rw[e1];exact⟨n',l',B',rfl,e2⟩
  ·rw[lv (decide_eq_false (by unfold ln;omega))];refine⟨n,l,B,rfl,h3,h5,?_⟩;rw[List.take_of_length_le (by simp;omega),List.drop_eq_nil_of_le (by omega:s.length≤i)];simp[fQ,ax]
theorem Ye(s:J):bD (ax s)=s:=by
 simp only[bD,ax,List.map_map]
 conv=>rhs;rw[←List.map_id s]
 apply List.map_congr_left;intro c _;simp
theorem a83(s:J)(hs:s.length≤1000000)(m:Nat)(hm:s.length+2≤m):B8 m s=some (fQ false s):=by
 unfold B8 LC;rw[aL ⟨by omega,by unfold ln;omega,by unfold ln;omega⟩,lt_eq];obtain⟨n',l',B',e1,e2,e3,e4⟩:=a82 m s hs m 0 0 0 [] (Nat.le_refl _) (by omega) (by omega) (by omega) (by simp);have As:qw m s m 0 0 false 0 (List.replicate (0:Int).toNat 0)=some (.inr (n',(l':Int),B')):=e1;rw[As];simp only[Option.bind_some,eY];simp only[List.take_zero,List.drop_zero,Nat.sub_self,List.nil_append,ax,List.map_nil]at e4;by_cases h:l'=s.length
 ·subst h;rw[lv (by simp[ln])];simp only[Option.bind_some];simp at e4;rw[e4];exact congrArg some (Ye _)
 ·rw[qb (by simp[ln];omega),aL ⟨by omega,by unfold ln;omega⟩,E4 _ _ e2,Qv _ _ (by simp;omega)];simp only[Option.bind_some];have e5:B'++ax (s.drop l')=ax (fQ false s):=e4;rw[e5];exact congrArg some (Ye _)
theorem Yf(w:World):(callFunc 183 #[]).run Tryz.prog w=.ok (.value (.tuple #[])) w:=run_call_mark0 Tryz.func183 (by kernel_rfl) (by kernel_rfl) (by kernel_rfl) .disable (by kernel_rfl) w
theorem Yg(w:World):(callFunc 185 #[]).run Tryz.prog w=.ok (.value (.tuple #[])) w:=run_call_mark0 Tryz.func185 (by kernel_rfl) (by kernel_rfl) (by kernel_rfl) .enable (by kernel_rfl) w
theorem a84(a:Addr)(w:World):(callFunc 186 #[.pointer (some a)]).run Tryz.prog w=.ok (.value (.tuple #[])) w:=run_call_marked Tryz.func186 (by kernel_rfl) (by kernel_rfl) (by kernel_rfl) .acquire (by kernel_rfl) a w
theorem a86(a:Addr)(w:World):(callFunc 188 #[.pointer (some a)]).run Tryz.prog w=.ok (.value (.tuple #[])) w:=run_call_marked Tryz.func188 (by kernel_rfl) (by kernel_rfl) (by kernel_rfl) .releaseMerge (by kernel_rfl) a w
theorem a88(a:Addr)(x:Value)(u:FrameMode)(w:World)(hc:w.cell? a=some x)(hz:w.frozen? a=false):
  CallsD Tryz.prog 113 #[.pointer (some a),.bool true] u w λe u' w'=>u'=u∧(e=.returned (.tuple #[])∧w'=w.drew.setCell a (.int .u32 1)):=by
 have Ar:w.drew.cell? a=some x:=by go_simp
 have sJ:w.drew.frozen? a=false:=by go_simp
 have jE:=run_call_store (P:=Tryz.prog) Tryz.func150 (by kernel_rfl) (by kernel_rfl) (by kernel_rfl) (by kernel_rfl) (k:=.u32) (y:=1) Ar sJ
 go_enter_d Tryz.func113,Tryz.ntmps113
 go_wp2
 go_region_calls
 all_goals (go_end0;exact⟨rfl,rfl⟩)
theorem a89(a:Addr)(u:FrameMode)(w:World)(hc:w.cell? a=some (.int .i32 1))(hz:w.frozen? a=false):
  CallsD Tryz.prog 112 #[.pointer (some a)] u w λe u' w'=>u'=u∧(e=.returned (.tuple #[])∧w'=w.setCell a (.int .i32 0)):=by
 have hd:=Yf;have he:=Yg;have hr:=a86;have ajB:=run_call_add (P:=Tryz.prog) Tryz.func189 (by kernel_rfl) (by kernel_rfl) (by kernel_rfl) .i32 (by kernel_rfl) (y:=-1) (s:=0) hc hz (by simp[go_sem];rfl);have hcv:=run_convert_to_unsafe (P:=Tryz.prog) (src:=208) (dst:=172) Tryz.underlying208 Tryz.underlying172 (by kernel_rfl) hc
 go_enter_d Tryz.func112,Tryz.ntmps112
 go_wp2
 go_end0
 go_wp2
 go_end0
 exact⟨rfl,rfl⟩
theorem a8a(a:Addr)(w:World)(hc:w.cell? a=some (.int .i32 0))(hz:w.frozen? a=false):
  Calls Tryz.prog 111 #[.pointer (some a)] w λe w'=>e=.returned (.tuple #[])∧w'=w.setCell a (.int .i32 1):=by
 have hd:=Yf;have he:=Yg;have ha:=a84;have Qx:=run_call_cas_hit (P:=Tryz.prog) Tryz.func184 (by kernel_rfl) (by kernel_rfl) (by kernel_rfl) .i32 (by kernel_rfl) (y:=1) hc hz;have Ar:(w.setCell a (.int .i32 1)).cell? a=some (.int .i32 1):=World.cell?_setCell_same w a _ hc;have hcv:=run_convert_to_unsafe (P:=Tryz.prog) (src:=208) (dst:=172) Tryz.underlying208 Tryz.underlying172 (by kernel_rfl) Ar
 go_enter Tryz.func111,Tryz.ntmps111
 go_wp2
 first|go_end0|(simp only[Exit.inBlock,Exit.then];refine bodyPost_ret (results_none rfl _ _ _) rfl ?_)|refine bodyPost_ret (results_none rfl _ _ _) rfl ?_
 go_wp2
 go_end0
 exact⟨rfl,rfl⟩
theorem Qy{w:World}{b off:Nat}{cs:List Value}(h:dh w b cs):w.frozen? ⟨b,off,none⟩=false:=by
 obtain⟨_,T,hT⟩:=h;simp[World.frozen?,hT]
theorem LN{w:World}{b off:Nat}{cs:List Value}(h:dh w b cs)(v:Value):dh (w.setCell ⟨b,off,none⟩ v) b (cs.set off v):=by
 obtain⟨hl,T,hT⟩:=h;exact⟨Nat.lt_of_lt_of_le hl (qc w ⟨b,off,none⟩ v).size,T,Az hT⟩
set_option maxRecDepth 100000 in
theorem a8b(b:Nat)(c3 c4:Value)(w:World)(K:World→Prop)(hw:dh w b [.int .u32 0,.int .i32 0,.int .u32 0,c3,c4])
  (hB:∀w1,dh w1 b [.int .u32 0,.int .i32 1,.int .u32 0,c3,c4]→Kp [b] w w1→Calls Tryz.prog 41 #[.pointer (some ⟨b,0,none⟩)] w1 λe w2=>e=.returned (.tuple #[])∧K w2)
  (hK:∀w2,K w2→∃d3 d4,dh w2 b [.int .u32 0,.int .i32 1,.int .u32 0,d3,d4]):
  Calls Tryz.prog 72 #[.pointer (some ⟨b,0,none⟩),.func (.func 41) #[.pointer (some ⟨b,0,none⟩)] #[]] w λe w'=>e=.returned (.tuple #[])∧∃w2,K w2∧w'=(w2.drew.setCell ⟨b,0,none⟩ (.int .u32 1)).setCell ⟨b,1,none⟩ (.int .i32 0):=by
 have h1:w.cell? ⟨b,1,none⟩=some (.int .i32 0):=by rw[hw.cell];rfl
 have f1:=Qy (off:=1) hw;have iD:dh (w.setCell ⟨b,1,none⟩ (.int .i32 1)) b [.int .u32 0,.int .i32 1,.int .u32 0,c3,c4]:=LN hw _;have hl:=run_call_load (P:=Tryz.prog) Tryz.func110 (by kernel_rfl) (by kernel_rfl) (by kernel_rfl) .u32 (by kernel_rfl) (w:=w.setCell ⟨b,1,none⟩ (.int .i32 1)) (a:=⟨b,0,none⟩) (x:=0) (by rw[iD.cell];rfl);have hBB:=hB _ iD (qc w ⟨b,1,none⟩ _);have a8c:∀(x:Bool)(w:World),(Op.unary .not (.bool x)).run Tryz.prog w=.ok (.bool (!x)) w:=λ_ _=>rfl
 go_enter_defers Tryz.func72,Tryz.ntmps72
 go_wp2_with (first|(go_at_call 111;refine(a8a ⟨b,1,none⟩ _ (by go_simp) (by go_simp)).mono ?_;rintro e w' ⟨rfl,rfl⟩)|(go_at_call 41;refine hBB.mono ?_;rintro e w2 ⟨rfl,L5⟩)|go_in)
 obtain⟨d3,d4,lX⟩:=hK w2 L5;have Qz:dh w2.drew b [.int .u32 0,.int .i32 1,.int .u32 0,d3,d4]:=lX.kp (X:=[]) ⟨rfl,rfl,rfl,Nat.le_refl _,λ_ _ _=>rfl⟩ (by simp);have Yh:dh (w2.drew.setCell ⟨b,0,none⟩ (.int .u32 1)) b [.int .u32 1,.int .i32 1,.int .u32 0,d3,d4]:=LN Qz _;refine leaves_cons (f:=113) (args:=#[.pointer (some ⟨b,0,none⟩),.bool true]) (by simp) (by simp[go_sem]) ?_;refine(a88 ⟨b,0,none⟩ (.int .u32 0) .returning w2 (by rw[lX.cell];rfl) (Qy lX)).mono ?_;rintro e u' kB ⟨rfl,rfl,rfl⟩;refine leaves_cons (f:=112) (args:=#[.pointer (some ⟨b,1,none⟩)]) (by simp[settle]) (by simp[go_sem]) ?_;refine(a89 ⟨b,1,none⟩ _ _ (by rw[Yh.cell];rfl) (Qy Yh)).mono ?_;rintro e u' kB ⟨rfl,rfl,rfl⟩;simp[Leaves,settle,results,Tryz.results72];exact⟨w2,L5,rfl⟩
theorem a8d(b:Nat)(c3 c4:Value)(w:World)(K:World→Prop)(hw:dh w b [.int .u32 0,.int .i32 0,.int .u32 0,c3,c4])
  (hB:∀w1,dh w1 b [.int .u32 0,.int .i32 1,.int .u32 0,c3,c4]→Kp [b] w w1→Calls Tryz.prog 41 #[.pointer (some ⟨b,0,none⟩)] w1 λe w2=>e=.returned (.tuple #[])∧K w2)
  (hK:∀w2,K w2→∃d3 d4,dh w2 b [.int .u32 0,.int .i32 1,.int .u32 0,d3,d4]):
  Calls Tryz.prog 40 #[.pointer (some ⟨b,0,none⟩),.func (.func 41) #[.pointer (some ⟨b,0,none⟩)] #[]] w λe w'=>e=.returned (.tuple #[])∧∃w2,K w2∧w'=(w2.drew.setCell ⟨b,0,none⟩ (.int .u32 1)).setCell ⟨b,1,none⟩ (.int .i32 0):=by
 have hl:=run_call_load (P:=Tryz.prog) Tryz.func110 (by kernel_rfl) (by kernel_rfl) (by kernel_rfl) .u32 (by kernel_rfl) (w:=w) (a:=⟨b,0,none⟩) (x:=0) (by rw[hw.cell];rfl);have a8c:∀(x:Bool)(w:World),(Op.unary .not (.bool x)).run Tryz.prog w=.ok (.bool (!x)) w:=λ_ _=>rfl
 go_enter Tryz.func40,Tryz.ntmps40
 go_wp2_with (first|(go_at_call 72;refine(a8b b c3 c4 w K hw hB hK).mono ?_;rintro e w' ⟨rfl,hq⟩)|(go_at_call 71;go_in))
 go_end0
 exact⟨rfl,hq⟩
theorem a8e{M:Av}{rb:Nat}{gl:Gh}{w:World}(hS:S0 M [aj.cq rb [.int .u32 0,.int .i32 0,.int .u32 0,.nilIface,.slice gl.a 8 gl.c],aj.own 9 tS cf gl] w):
  kW Tryz.prog 40 ⟨[.pointer (some ⟨rb,0,none⟩),.func (.func 41) ⟨[.pointer (some ⟨rb,0,none⟩)]⟩ ⟨[]⟩]⟩ w (λv w'=>∃g tb n1 n2 n3 n4:Nat,v=.tuple ⟨[]⟩∧AY w' g tb n1 n2 n3 n4∧
   SH M (aG [aj.cq rb [.int .u32 0,.int .i32 0,.int .u32 0,.nilIface,.slice gl.a 8 gl.c],aj.own 9 tS cf gl]) w [aj.cq rb [.int .u32 1,.int .i32 0,.int .u32 0,.iface 154 (.pointer (some ⟨g,0,none⟩)),.slice none 0 0]] w'):=by
 refine⟨Tryz.call40 _,?_⟩;have hb:=hS.bk 0 rfl;refine(a8d rb _ _ w (λw2=>∃g tb n1 n2 n3 n4:Nat,AY w2 g tb n1 n2 n3 n4∧dh w2 rb [.int .u32 0,.int .i32 1,.int .u32 0,.iface 154 (.pointer (some ⟨g,0,none⟩)),.slice none 0 0]∧(∀b∈[g,tb,n1,n2,n3,n4],b∉[rb])∧
  Kp (aG [aj.cq rb [.int .u32 0,.int .i32 0,.int .u32 0,.nilIface,.slice gl.a 8 gl.c],aj.own 9 tS cf gl]) w w2) hb ?_ ?_).mono ?_
 ·intro w1 iD L9;have hn:=hS.nd;have h1:SH M (aG [aj.cq rb [.int .u32 0,.int .i32 0,.int .u32 0,.nilIface,.slice gl.a 8 gl.c],aj.own 9 tS cf gl]) w [aj.cq rb [.int .u32 0,.int .i32 1,.int .u32 0,.nilIface,.slice gl.a 8 gl.c],aj.own 9 tS cf gl] w1:=by
   refine SH.step hS (L9.wide (by simp[aG,aj.cq])) ?_ (λb hb=>.inr hb) ?_
   ·rw[List.pairwise_cons]at hn⊢;exact⟨λf hf=>by rcases List.mem_singleton.1 hf with rfl;exact hn.1 _ (by simp),by simp⟩
   ·intro e he;rcases List.mem_cons.1 he with rfl|he
    ·exact iD
    ·rcases List.mem_singleton.1 he with rfl;refine gN.kp (X:=[rb]) (hS.ow 1 rfl) L9 (λb hb=>?_) (λb hb hx=>?_)
     ·rcases List.mem_singleton.1 hb with rfl;exact .inr (by simp[aG,aj.cq])
     ·rw[List.pairwise_cons]at hn;exact hn.1 (aj.own 9 tS cf gl) (by simp) b (by simpa[aj.cq]using hx) hb
  have hd:=h1.hand [0,1] [] rfl rfl;refine(bo _ w1 hd).run.mono ?_;rintro e w2 ⟨v,rfl,b5,b6,b7,b8,b9,b10,rfl,h2⟩;have h3:=h1.join [0,1] [] rfl rfl h2;have hp:=h2.nd;refine⟨rfl,b5,b6,b8,b7,b9,b10,⟨(h2.bI 6 rfl).1,h2.bk 2 rfl,h2.bk 4 rfl,h2.bk 5 rfl,h2.bk 3 rfl,h2.bk 1 rfl⟩,h2.bk 0 rfl,?_,h3.kp⟩;rw[List.pairwise_cons]at hp;have hx:∀b,(∃e∈_,b∈aj.fp e)→b∉[rb]:=λb ⟨e,he,AG⟩ hr=>hp.1 e he b (by simpa[aj.cq]using hr) AG;intro b hb;simp only[List.mem_cons,List.not_mem_nil,or_false]at hb;rcases hb with rfl|rfl|rfl|rfl|rfl|rfl
  ·exact hx _ ⟨_,List.mem_of_getElem? (i:=5) rfl,by simp[aj.bI]⟩
  ·exact hx _ ⟨_,List.mem_of_getElem? (i:=1) rfl,by simp[aj.cq]⟩
  ·exact hx _ ⟨_,List.mem_of_getElem? (i:=3) rfl,by simp[aj.cq]⟩
  ·exact hx _ ⟨_,List.mem_of_getElem? (i:=4) rfl,by simp[aj.cq]⟩
  ·exact hx _ ⟨_,List.mem_of_getElem? (i:=2) rfl,by simp[aj.cq]⟩
  ·exact hx _ ⟨_,List.mem_of_getElem? (i:=0) rfl,by simp[aj.cq]⟩
 ·rintro w2 ⟨g,tb,n1,n2,n3,n4,_,lX,_⟩;exact⟨_,_,lX⟩
 ·rintro e w' ⟨rfl,w2,⟨g,tb,n1,n2,n3,n4,ht,lX,cQ,hk⟩,rfl⟩;have k1:Kp [rb] w2 (w2.drew.setCell ⟨rb,0,none⟩ (.int .u32 1)):=(show Kp [rb] w2 w2.drew from⟨rfl,rfl,rfl,Nat.le_refl _,λ_ _ _=>rfl⟩).trans (qc w2.drew ⟨rb,0,none⟩ _) (by simp);have k2:Kp [rb] w2 ((w2.drew.setCell ⟨rb,0,none⟩ (.int .u32 1)).setCell ⟨rb,1,none⟩ (.int .i32 0)):=k1.trans (qc _ ⟨rb,1,none⟩ _) (by simp);have Qz:dh w2.drew rb [.int .u32 0,.int .i32 1,.int .u32 0,.iface 154 (.pointer (some ⟨g,0,none⟩)),.slice none 0 0]:=lX.kp (X:=[]) ⟨rfl,rfl,rfl,Nat.le_refl _,λ_ _ _=>rfl⟩ (by simp);have hx:∀b∈[g,tb,n1,n2,n3,n4],b∉[rb]:=cQ;refine⟨_,rfl,g,tb,n1,n2,n3,n4,rfl,⟨ht.bg.kp k2 (hx _ (by simp)),ht.bt.kp k2 (hx _ (by simp)),ht.b1.kp k2 (hx _ (by simp)),ht.b2.kp k2 (hx _ (by simp)),ht.b3.kp k2 (hx _ (by simp)),ht.b4.kp k2 (hx _ (by simp))⟩,?_⟩;refine SH.step hS (hk.trans k2 (by simp[aG,aj.cq])) (by simp) (by simp[aG,aj.cq]) ?_;intro e he;rcases List.mem_singleton.1 he with rfl;exact LN (LN Qz _) _
theorem a8f{w:World}{g tb n1 n2 n3 n4 m:Nat}{s r:J}(hm:B8 m s=some r)(ht:AY w g tb n1 n2 n3 n4):
  kW Tryz.prog 244 ⟨[.pointer (some ⟨g,0,none⟩),.string ⟨⟨s⟩⟩]⟩ w (λv w'=>v=.string ⟨⟨r⟩⟩∧Kp [] w w'):=by
 refine⟨Tryz.call244 _,(a7E F0 m s r hm w (Xs bz ht).1).mono ?_⟩;rintro e w' ⟨v,rfl,rfl,hk⟩;exact⟨_,rfl,rfl,hk.kp⟩
theorem a8g{M:Av}{rb m:Nat}{gl:Gh}{w:World}{s r:J}(hm:B8 m s=some r)(hS:S0 M [aj.cq rb [.int .u32 0,.int .i32 0,.int .u32 0,.nilIface,.slice gl.a 8 gl.c],aj.own 9 tS cf gl] w):
  kW Tryz.prog 20 ⟨[.pointer (some ⟨rb,0,none⟩),.string ⟨⟨s⟩⟩]⟩ w (λv w'=>v=.string ⟨⟨r⟩⟩∧SH M (aG [aj.cq rb [.int .u32 0,.int .i32 0,.int .u32 0,.nilIface,.slice gl.a 8 gl.c],aj.own 9 tS cf gl]) w [] w'):=by
 refine⟨Tryz.call20 _,?_⟩;have bL:SH M (aG [aj.cq rb [.int .u32 0,.int .i32 0,.int .u32 0,.nilIface,.slice gl.a 8 gl.c],aj.own 9 tS cf gl]) w [aj.cq rb [.int .u32 0,.int .i32 0,.int .u32 0,.nilIface,.slice gl.a 8 gl.c],aj.own 9 tS cf gl] w:=hS;generalize hX:aG [aj.cq rb [.int .u32 0,.int .i32 0,.int .u32 0,.nilIface,.slice gl.a 8 gl.c],aj.own 9 tS cf gl]=X at bL⊢;clear hS hX;have hS:=bL;clear bL;refine lz Tryz.func20 rfl Tryz.ntmps20 rfl λ_ H=>?_;refine kT [] [0,1] [(0,[],.pointer (some ⟨rb,0,none⟩)),(1,[],.string ⟨⟨s⟩⟩)] [] H (by kernel_rfl) trivial λ_ Xw H2 hb=>?_;clear H;replace hS:=hS.below hb;clear hb;refine p7 ?_;refine AA ?_;refine kV 0 5 [] [0,1,7,9] [(0,[],.pointer (some ⟨rb,0,none⟩)),(1,[],.string ⟨⟨s⟩⟩),(7,[],.pointer (some ⟨rb,0,none⟩)),(9,[],.func (.func 41) ⟨[.pointer (some ⟨rb,0,none⟩)]⟩ ⟨[]⟩)] [] H2 (by decide) (by kernel_rfl) trivial λ_ Xx H3 hb=>?_;clear H2;replace hS:=hS.below hb;clear hb;have hd:=hS.hand [0,1] [] rfl rfl;refine lA [10,0,1] [(0,[],.pointer (some ⟨rb,0,none⟩)),(1,[],.string ⟨⟨s⟩⟩)] H3 rfl rfl rfl rfl (cN H3 rfl rfl (a8e hd)) (λ_=>rfl) λ_ PV v H4 hq=>?_;clear H3 hd;obtain⟨g,tb,n1,n2,n3,n4,rfl,ht,hq⟩:=hq;replace hS:SH M X w [aj.cq rb [.int .u32 1,.int .i32 0,.int .u32 0,.iface 154 (.pointer (some ⟨g,0,none⟩)),.slice none 0 0]] _:=hS.join [0,1] [] rfl rfl hq;clear hq;refine Dq rfl ?_;refine p7 ?_;refine AA ?_;refine kV 0 5 [.iface 154 (.pointer (some ⟨g,0,none⟩))] [14,15] [(14,[],.iface 154 (.pointer (some ⟨g,0,none⟩))),(15,[],.string ⟨⟨s⟩⟩)] [λwz=>V.aQ ⟨rb,3,none⟩ (.iface 154 (.pointer (some ⟨g,0,none⟩))) wz] H4 (by decide) (by kernel_rfl) ⟨(hS.bk 0 rfl).aQ rfl,trivial⟩ λ_ Yi H5 hb=>?_;clear H4;have Hi:AY Yi g tb n1 n2 n3 n4:=⟨ht.bg.below hb,ht.bt.below hb,ht.b1.below hb,ht.b2.below hb,ht.b3.below hb,ht.b4.below hb⟩;clear ht;replace hS:=hS.below hb;clear hb;refine lA [16] [] H5 rfl rfl rfl rfl (L6 H5 rfl rfl (λw=>by kernel_rfl) (a8f hm Hi)) (λ_=>rfl) λ_ wd5 v H6 hq=>?_;clear H5;obtain⟨rfl,hq⟩:=hq;replace hS:=hS.below hq.below;clear hq;refine kV 6 7 [] [4] [(4,[],.string ⟨⟨r⟩⟩)] [] H6 (by decide) (by kernel_rfl) trivial λ_ Xy H7 hb=>?_;clear H6;replace hS:=hS.below hb;clear hb;refine Dq rfl ?_;refine Ay ?_;exact wC H7 rfl rfl ⟨_,rfl,rfl,hS.bx [] rfl⟩
def gU(s:J):J×Int:=if 4000<ln s then([],28)else(fQ false s,0)
theorem a8h(M:Av)(s:J)(w:World)(hS:S0 M [] w):Calls Tryz.prog 5 ⟨[.string ⟨⟨s⟩⟩]⟩ w (λe w'=>∃v,e=.returned v∧v=.tuple ⟨[.string ⟨⟨(gU s).1⟩⟩,.int .i64 (gU s).2]⟩∧SH M (aG []) w [] w'):=by
 have bL:SH M (aG []) w [] w:=hS;generalize hX:aG []=X at bL⊢;clear hS hX;have hS:=bL;clear bL;refine lz Tryz.func5 rfl Tryz.ntmps5 rfl λ_ H=>?_;refine kT [] [0] [(0,[],.string ⟨⟨s⟩⟩)] [] H (by kernel_rfl) trivial λ_ Xw H2 hb=>?_;clear H;replace hS:=hS.below hb;clear hb;refine p7 ?_;refine kT [] [0,6] [(0,[],.string ⟨⟨s⟩⟩),(6,[],.bool (decide (4000<ln s)))] [] H2 (by kernel_rfl) trivial λ_ Xx H3 hb=>?_;clear H2;replace hS:=hS.below hb;clear hb;refine yE H3 rfl (λhc=>?_) (λhc=>?_)
 ·have e:gU s=([],28):=by rw[gU,if_pos (of_decide_eq_true hc)]
  refine kT [] [2,3] [(2,[],.string ⟨⟨[]⟩⟩),(3,[],.int .i64 28)] [] H3 (by kernel_rfl) trivial λ_ PV H4 hb=>?_;replace hS:=hS.below hb;refine Ay ?_;exact Gx H4 rfl rfl rfl ⟨_,rfl,by rw[e],hS.bx [] rfl⟩
 ·have hl:¬4000<ln s:=of_decide_eq_false hc;have e:gU s=(fQ false s,0):=by rw[gU,if_neg hl]
  have hm:B8 5000 s=some (fQ false s):=a83 s (by unfold ln at hl;omega) 5000 (by unfold ln at hl;omega);refine OV ?_;refine p7 ?_;refine AA ?_;have hd:=hS.hand [] [] rfl rfl;refine lA [7,0] [(0,[],.string ⟨⟨s⟩⟩)] H3 rfl rfl rfl rfl (cN H3 rfl rfl (a7I (0,0,0,cf) (by kernel_rfl) _ _ hd)) (λ_=>rfl) λ_ PV v H4 hq=>?_;clear H3 hd;obtain⟨rb,gl,rfl,hq⟩:=hq;replace hS:SH M X w [aj.cq rb [.int .u32 0,.int .i32 0,.int .u32 0,.nilIface,.slice gl.a 8 gl.c],aj.own 9 tS cf gl] _:=hS.join [] [] rfl rfl hq;clear hq;refine kV 1 2 [] [7,8] [(7,[],.pointer (some ⟨rb,0,none⟩)),(8,[],.string ⟨⟨s⟩⟩)] [] H4 (by decide) (by kernel_rfl) trivial λ_ Yi H5 hb=>?_;clear H4;replace hS:=hS.below hb;clear hb;have hd:=hS.hand [0,1] [] rfl rfl;refine lA [9] [] H5 rfl rfl rfl rfl (cN H5 rfl rfl (a8g hm hd)) (λ_=>rfl) λ_ wd5 v H6 hq=>?_;clear H5 hd;obtain⟨rfl,hq⟩:=hq;replace hS:SH M X w [] _:=hS.join [0,1] [] rfl rfl hq;clear hq;refine kV 3 5 [] [2,3] [(2,[],.string ⟨⟨fQ false s⟩⟩),(3,[],.int .i64 0)] [] H6 (by decide) (by kernel_rfl) trivial λ_ Xy H7 hb=>?_;clear H6;replace hS:=hS.below hb;clear hb;refine Dq rfl ?_;refine Ay ?_;exact Gx H7 rfl rfl rfl ⟨_,rfl,by rw[e],hS.bx [] rfl⟩
theorem Yj(s:J):wv Tryz.prog 5 ⟨[.string ⟨⟨s⟩⟩]⟩ (.tuple ⟨[.string ⟨⟨(gU s).1⟩⟩,.int .i64 (gU s).2]⟩):=Pb (Tryz.call5 _) (λw h=>a8h F0 s w h)
end Go.Proofs.YtpobihiejncdgaaGreatDoor
