/-
 A small program logic over the kit's 'Code.wp': frames by what is known of their slots, pure operations by evaluation, rules for calls, tests, blocks and loops. Nothing here is a statement of this claim.
-/
import Derived.WalkKit
import Derived.WalkLawsBesides
import Derived.Deep.Quiet
import Derived.Laws.BytesArg
import Derived.Laws.StructEq
import Derived.ChangeKeysEq
import Derived.Maps.AppendAt
import Derived.Lib.Bytealg
import Derived.Laws.MakeOwn
import Derived.Scope
import Derived.Lib.AppendStr
namespace Go.V
open Go Go.RowKit
section
abbrev a7:=List UInt8
def fZ(op:BinOp)(k:IntKind)(x y:Int):Int:=
 k.wrap (match op with
  | .and=>((BitVec.ofInt k.bits x&&&BitVec.ofInt k.bits y).toNat:Int)
  | .or=>((BitVec.ofInt k.bits x|||BitVec.ofInt k.bits y).toNat:Int)
  | .xor=>((BitVec.ofInt k.bits x ^^^ BitVec.ofInt k.bits y).toNat:Int)
  |_=>((BitVec.ofInt k.bits x&&&~~~BitVec.ofInt k.bits y).toNat:Int))
abbrev J(x:Int):Int:=IntKind.i64.wrap x
abbrev cI(x:Int):Int:=IntKind.u64.wrap x
abbrev dc(x:Int):Int:=IntKind.u8.wrap x
def bU(s:List UInt8)(i:Int):Int:=((s.getD i.toNat 0).toNat:Int)
def sub(s:List UInt8)(i j:Int):List UInt8:=(s.drop i.toNat).take (j.toNat-i.toNat)
def ln{α:Type}(l:List α):Int:=(l.length:Int)
abbrev iB:=List (Nat×Bool)
abbrev SF:=List (Nat×iB×Value)
def kY(a:Act)(C:iB):Prop:=∀p∈C,a.tmps[p.1]?=some (.bool p.2)
def aj(D:List Deferred)(n:Nat)(l:SF)(a:Act):Prop:=
 a.defers=D∧a.tmps.size=n∧∀e∈l,(kY a e.2.1→a.tmps[e.1]?=some e.2.2)∧(¬kY a e.2.1→a.tmps[e.1]?=some undef)
abbrev Fr:=aj []
variable {D:List Deferred}
def uk(C G:iB):Bool:=C.all λp=>G.any λq=>Nat.beq p.1 q.1&&p.2==q.2
theorem K4{a:Act}{C G:iB}(h:uk C G=true)(hG:kY a G):kY a C:=by
 intro p hp;have:=List.all_eq_true.1 h p hp;obtain⟨q,hq,Sy⟩:=List.any_eq_true.1 this;simp only[Bool.and_eq_true,beq_iff_eq]at Sy;have h1:=Nat.eq_of_beq_eq_true Sy.1;rw[h1,Sy.2];exact hG q hq
def gw:SF→Nat→Option (iB×Value)
 |[],_=>none
 |e::r,t=>cond (Nat.beq e.1 t) (some e.2) (gw r t)
theorem ul{l:SF}{t:Nat}{x:iB×Value}(h:gw l t=some x):(t,x)∈l:=by
 induction l with
 |nil=>simp[gw]at h
 |cons e r ih=>
  unfold gw at h;cases hb:Nat.beq e.1 t with
  |true=>
   rw[hb]at h;simp only[cond_true,Option.some.injEq]at h;have:=Nat.eq_of_beq_eq_true hb;subst this;subst h;exact List.mem_cons_self
  |false=>
   rw[hb]at h;exact List.mem_cons_of_mem _ (ih h)
def ev(l:SF)(G:iB):Operand→Option Value
 | .tmp t=>match gw l t with
  |some (C,v)=>cond (uk C G) (some v) none
  |none=>none
 | .const v=>some v
 | .global g=>some (.pointer (some ⟨g,0,none⟩))
 | .func f=>some (.func (.func f) #[] #[])
theorem aj.ev{n:Nat}{l:SF}{a:Act}(H:aj D n l a){G:iB}(hG:kY a G){x:Operand}{v:Value}(h:ev l G x=some v):a.eval x=v:=by
 cases x with
 |tmp t=>
  unfold V.ev at h;cases he:gw l t with
  |none=>simp[he]at h
  |some p=>
   obtain⟨C,u⟩:=p;simp only[he]at h;cases hs:uk C G with
   |false=>rw[hs]at h;cases h
   |true=>
    rw[hs]at h;simp only[cond_true,Option.some.injEq]at h;subst h;have:=(H.2.2 _ (ul he)).1 (K4 hs hG);simp only[Act.eval,Array.getD_eq_getD_getElem?,this,Option.getD_some]
 |const c=>simpa[V.ev,Act.eval]using h
 |global g=>simpa[V.ev,Act.eval]using h
 |func f=>simpa[V.ev,Act.eval]using h
def oX(l:SF)(d:Nat)(C:iB)(v:Value):SF:=
 (d,C,v)::l.filter λe=>!(Nat.beq e.1 d)&&e.2.1.all λp=>!(Nat.beq p.1 d)
theorem GM{a:Act}{d s:Nat}{v:Value}(h:s≠d):(a.put (some d) v).tmps[s]?=a.tmps[s]?:=by
 simp only[Act.put];rw[Array.getElem?_setIfInBounds_ne (λe=>h e.symm)]
theorem ZO{a:Act}{C:iB}{d:Nat}{v:Value}(h:(C.all λp=>!(Nat.beq p.1 d))=true):kY (a.put (some d) v) C↔kY a C:=by
 unfold kY;constructor<;>intro hh p hp<;>have h1:=hh p hp<;>have h2:=List.all_eq_true.1 h p hp
 ·rw[GM]at h1
  ·exact h1
  ·intro e;rw[e]at h2;simp at h2
 ·rw[GM]
  ·exact h1
  ·intro e;rw[e]at h2;simp at h2
theorem aj.put{n:Nat}{l:SF}{a:Act}(H:aj D n l a){d:Nat}{C:iB}{v u:Value}(hd:Nat.blt d n=true)(hC:(C.all λp=>!(Nat.beq p.1 d))=true)
  (h1:kY a C→u=v)(h2:¬kY a C→u=undef):aj D n (oX l d C v) (a.put (some d) u):=by
 have hd:d<n:=by simpa[Nat.blt,Nat.lt_iff_add_one_le]using hd
 obtain⟨g1,g2,g3⟩:=H;refine⟨g1,by simpa[Act.put]using g2,?_⟩;intro e he;unfold oX at he;rcases List.mem_cons.1 he with rfl|he
 ·have hs:(a.put (some d) u).tmps[d]?=some u:=by simp[Act.put,g2,hd]
  dsimp only;rw[ZO hC,hs];exact⟨λh=>by rw[h1 h],λh=>by rw[h2 h]⟩
 ·obtain⟨he,hQ⟩:=List.mem_filter.1 he;simp only[Bool.and_eq_true]at hQ;have hn:e.1≠d:=by
   intro x;rw[x]at hQ;simp at hQ
  rw[ZO hQ.2,GM hn];exact g3 e he
def aK(l:SF):List Nat→Option SF
 |[]=>some []
 |t::r=>match gw l t,aK l r with
  |some ([],v),some l'=>some ((t,[],v)::l')
  |_,_=>none
theorem aj.aK{n:Nat}{l l':SF}{a:Act}{ks:List Nat}(H:aj D n l a)(h:aK l ks=some l'):aj D n l' a:=by
 refine⟨H.1,H.2.1,?_⟩
 induction ks generalizing l' with
 |nil=>simp[V.aK]at h;subst h;simp
 |cons t r ih=>
  unfold V.aK at h;split at h
  ·rename_i v l2 h1 h2;simp only[Option.some.injEq]at h;subst h;intro p hp;rcases List.mem_cons.1 hp with rfl|hp
   ·exact H.2.2 _ (ul h1)
   ·exact ih h2 p hp
  ·cases h
theorem aj.mono{n:Nat}{l l':SF}{a:Act}(H:aj D n l a)(h:∀e∈l',e∈l):aj D n l' a:=⟨H.1,H.2.1,λe he=>H.2.2 e (h e he)⟩
def cp(l:SF):iB→Prop
 |[]=>True
 |p::r=>match gw l p.1 with
  |some (_,.bool b)=>b=p.2∧cp l r
  |_=>False
def zN(l:SF)(G:iB):iB→Bool
 |[]=>true
 |p::r=>match gw l p.1 with
  |some (C,.bool _)=>uk C G&&zN l G r
  |_=>false
theorem ZP{n:Nat}{l:SF}{a:Act}(H:aj D n l a){G:iB}(hG:kY a G):∀{C:iB},zN l G C=true→(∀p∈C,p∈G)→cp l C
 |[],_,_=>trivial
 |p::r,h,hs=>by
  unfold zN at h;unfold cp;split at h
  ·rename_i C b he;simp only[Bool.and_eq_true]at h;refine⟨?_,ZP H hG h.2 (λq hq=>hs q (List.mem_cons_of_mem _ hq))⟩;have h1:=(H.2.2 _ (ul he)).1 (K4 h.1 hG);have h2:=hG p (hs p List.mem_cons_self);rw[h1]at h2;simpa using h2
  ·cases h
def gd(l:SF)(G:iB)(p:Prop):Prop:=
 match G with
 |[]=>p
 |_=>cp l G→p
def Oj(op:BinOp)(k:IntKind)(a b:Int):Option Value:=
 match op with
 | .add=>some (.int k (k.wrap (a+b)))
 | .sub=>some (.int k (k.wrap (a-b)))
 | .mul=>some (.int k (k.wrap (a*b)))
 | .and| .or| .xor| .andNot=>some (.int k (fZ op k a b))
 | .eql=>some (.bool (a==b))
 | .neq=>some (.bool (a !=b))
 | .lss=>some (.bool (decide (a<b)))
 | .leq=>some (.bool (decide (a≤b)))
 | .gtr=>some (.bool (decide (b<a)))
 | .geq=>some (.bool (decide (b≤a)))
 |_=>none
def Ol(op:BinOp)(a b:List UInt8):Option Value:=
 match op with
 | .eql=>some (.bool (a==b))
 | .neq=>some (.bool (!(a==b)))
 | .lss=>some (.bool (Op.bytesLess a b))
 | .leq=>some (.bool (Op.bytesLess a b||a==b))
 | .gtr=>some (.bool (!(Op.bytesLess a b||a==b)))
 | .geq=>some (.bool (!(Op.bytesLess a b)))
 |_=>none
def GN:BinOp→Bool
 | .shl| .shr=>true
 |_=>false
def bin(P:Program)(op:BinOp)(t:TypeId)(x y:Value):Option Value:=
 match x,y with
 | .int k a,.int k' b=>cond (decide (k=k')&&!GN op) (Oj op k a b) none
 | .string ⟨⟨a⟩⟩,.string ⟨⟨b⟩⟩=>Ol op a b
 | .bool a,.bool b=>
  match op,P.underlying t with
  | .eql,some .bool=>some (.bool (a==b))
  | .neq,some .bool=>some (.bool (!(a==b)))
  |_,_=>none
 |_,_=>none
theorem ZQ{P:Program}{w:World}{op:BinOp}{k:IntKind}{t:TypeId}{a b:Int}{v:Value}(hs:GN op=false)(h:Oj op k a b=some v):
  (binOp op t (.int k a) (.int k b)).run P w=.ok v w:=by
 cases op<;>simp[Oj,GN]at h hs<;>subst h<;>simp[binOp,Op.intArith,Op.intBits,Op.intCmp,fZ]
theorem ZR{P:Program}{w:World}{op:BinOp}{t:TypeId}{a b:List UInt8}{v:Value}(h:Ol op a b=some v):
  (binOp op t (.string ⟨⟨a⟩⟩) (.string ⟨⟨b⟩⟩)).run P w=.ok v w:=by
 have ha:(ByteArray.mk ⟨a⟩).toList=a:=ByteArray.toList_mk a;have hb:(ByteArray.mk ⟨b⟩).toList=b:=ByteArray.toList_mk b;cases op<;>simp[Ol]at h<;>subst h<;>simp[binOp,Op.stringOp,ha,hb]
theorem a6b{P:Program}{w:World}{op:BinOp}{t:TypeId}{x y v:Value}(h:bin P op t x y=some v):
  (binOp op t x y).run P w=.ok v w:=by
 unfold bin at h;split at h
 ·rename_i k a k' b;cases hc:(decide (k=k')&&!GN op)with
  |false=>rw[hc]at h;cases h
  |true=>
   rw[hc]at h;simp only[Bool.and_eq_true,decide_eq_true_eq,Bool.not_eq_true']at hc;obtain⟨rfl,hs⟩:=hc;exact ZQ hs h
 ·exact ZR h
 ·rename_i a b;split at h
  ·rename_i hu;cases h;simp only[binOp,Sem.run_bind,run_equal_bool w t a b hu,Result.andThen_ok,Sem.run_pure]
  ·rename_i hu;cases h;simp only[binOp,Sem.run_bind,run_equal_bool w t a b hu,Result.andThen_ok,Sem.run_pure]
  ·cases h
 ·cases h
theorem a6c{P:Program}{w:World}{op DT:BinOp}{t t':TypeId}{p q:Operand}{x y v:Value}(h:bin P op t x y=some v):
  (eqGuard DT t' p q x y).run P w=.ok () w:=by
 unfold bin at h;split at h
 ·cases DT<;>rfl
 ·cases DT<;>rfl
 ·cases DT<;>rfl
 ·cases h
structure Bv(P:Program)(f:FuncId)(args:Array Value)(v:Value):Prop where
 call:∀w,(callFunc f args).run P w=.ok (.enter f args) w
 run:∀w,Calls P f args w λe w'=>e=.returned v∧Below w.heap.size w w'
structure a6d(P:Program)(f:FuncId)(args:Array Value)(v:Value)(w:World):Prop where
 call:∀w,(callFunc f args).run P w=.ok (.enter f args) w
 run:∀w',Below w.heap.size w w'→Calls P f args w' λe rO=>e=.returned v∧Below w'.heap.size w' rO
def lG(P:Program)(f:FuncId)(args:Array Value)(v:Value)(w:World):Prop:=a6d P f args v w∨∀w',Below w.heap.size w w'→(callFunc f args).run P w'=.ok (.value v) w'
theorem Bv.b{P:Program}{f:FuncId}{args:Array Value}{v:Value}{w:World}(h:Bv P f args v):lG P f args v w:=.inl ⟨h.call,λw' _=>h.run w'⟩
def ab:Option Addr→Nat
 |some x=>x.block
 |none=>0
def ao:Option Addr→Nat
 |some x=>x.off
 |none=>0
def eg(a:Option Addr):Prop:=a=some ⟨ab a,ao a,none⟩
abbrev Ob:=World→Prop
def c9(a:Addr)(v:Value)(w:World):Prop:=w.cell? a=some v∧a.block<w.heap.size
def bH(b off:Nat):List Value→Nat→World→Prop
 |[],_,_=>True
 |v::r,j,w=>c9 ⟨b,off+j,none⟩ v w∧bH b off r (j+1) w
def pq(l:SF)(G:iB):List Operand→Option (List Value)
 |[]=>some []
 |x::r=>match ev l G x,pq l G r with
  |some v,some vs=>some (v::vs)
  |_,_=>none
def Om(x y:Int):Int:=if x<y then y else x
def On(b:Builtin):List Value→Option Value
 |[.int k x,.int k' y]=>cond (decide (k=k')) (match b with
  | .min=>some (.int k (if y<x then y else x))
  | .max=>some (.int k (if x<y then y else x))
  |_=>none) none
 |[.int k x,.int k' y,.int k2 z]=>cond (decide (k=k')&&decide (k=k2)) (match b with
  | .max=>some (.int k (if(if x<y then y else x)<z then z else(if x<y then y else x)))
  |_=>none) none
 |[.int k x,.int k' y,.int k2 z,.int k3 u]=>cond (decide (k=k')&&(decide (k=k2)&&decide (k=k3))) (match b with
  | .max=>some (.int k (Om (Om (Om x y) z) u))
  |_=>none) none
 |_=>none
structure Out where
 v:Value
 os:List Value
 ob:Option Ob
def um(v:Option Value)(os:List Value):Option Out:=v.map λv=>{v,os,ob:=none}
def callee(l:SF)(G:iB)(x:Operand):Option (FuncId×List Value×List Value):=
 match ev l G x with
 |some (.func (.func f) ⟨first⟩ ⟨rP⟩)=>some (f,first,rP)
 |_=>none
def qk(l:SF)(G:iB):Option Operand→Option (Option Value)
 |none=>some none
 |some x=>match ev l G x with
  |some v=>some (some v)
  |none=>none
def K5(k:IntKind):List Value→Option (List Int)
 |[]=>some []
 |v::r=>match v,K5 k r with
  | .int k' x,some q=>cond (decide (k=k')) (some (x::q)) none
  |_,_=>none
def Sz(cs:List Value):Option (IntKind×List Int):=
 match cs with
 | .int k _::_=>match K5 k cs with
  |some q=>some (k,q)
  |none=>none
 |_=>none
def K6(q:List Int)(z:Nat)(n:Int):List Int:=(q.drop (n.toNat*z)).take z
def Oo(k:IntKind)(q:List Int)(z:Nat)(n:Int):List Value:=(List.range z).map λi=>.int k ((K6 q z n).getD i default)
theorem a6e{k:IntKind}{q:List Int}{z:Nat}{n:Int}(h:n.toNat*z+z≤q.length):((q.map (Value.int k)).drop (n.toNat*z)).take z=Oo k q z n:=by
 have hl:(K6 q z n).length=z:=by unfold K6;rw[List.length_take,List.length_drop];omega
 rw[←List.map_drop,←List.map_take];show(K6 q z n).map (Value.int k)=_;unfold Oo;refine List.ext_getElem (by simp[hl]) λi h1 h2=>?_;have h3:i<(K6 q z n).length:=by simpa using h1
 simp[List.getD_eq_getElem?_getD,List.getElem?_eq_getElem h3]
def placesOf(P:Program):List Field→Option (List (Nat×Nat))
 |[]=>some []
 |f::r=>match(P.info? f.type).map (·.size),placesOf P r with
  |some z,some ps=>some ((f.offset,z)::ps)
  |_,_=>none
def GO:TypeDesc→Bool
 | .struct _| .array _ _=>true
 |_=>false
def xk(P:Program)(t:TypeId)(cs:List Value)(off:Nat):Option Value:=
 match P.underlying t with
 |some d=>cond (GO d) (match(P.info? t).map (·.size)with
  |some z=>some (.agg ⟨(cs.drop off).take z⟩)
  |none=>none) cs[off]?
 |none=>none
def K7(f:TypeId→Value→Value→Option Bool)(P:Program)(xs ys:List Value):List Field→Option Bool
 |[]=>some true
 |fd::r=>match decide (fd.name≠ "_")with
  |true=>match xk P fd.type xs fd.offset,xk P fd.type ys fd.offset with
   |some a,some b=>match f fd.type a b,K7 f P xs ys r with
    |some p,some q=>some (p&&q)
    |_,_=>none
   |_,_=>none
  |false=>K7 f P xs ys r
def Oq(f:Value→Value→Option Bool)(P:Program)(e:TypeId)(c:Nat)(xs ys:List Value):List Nat→Option Bool
 |[]=>some true
 |i::r=>match xk P e xs (i*c),xk P e ys (i*c)with
  |some a,some b=>match f a b,Oq f P e c xs ys r with
   |some p,some q=>some (p&&q)
   |_,_=>none
  |_,_=>none
def GP(P:Program):Nat→TypeId→Value→Value→Option Bool
 |0,_,_,_=>none
 |d+1,t,x,y=>match P.underlying t with
  |some .bool=>match x,y with
   | .bool a,.bool b=>some (a==b)
   |_,_=>none
  |some (.int _)=>match x,y with
   | .int k a,.int k' b=>cond (decide (k=k')) (some (a==b)) none
   |_,_=>none
  |some .string=>match x,y with
   | .string ⟨⟨a⟩⟩,.string ⟨⟨b⟩⟩=>some (a==b)
   |_,_=>none
  |some (.struct fs)=>match x,y with
   | .agg ⟨xs⟩,.agg ⟨ys⟩=>cond (P.stoodInHeld t) none (K7 (GP P d) P xs ys fs.toList)
   |_,_=>none
  |some (.array n e)=>match x,y,(P.info? e).map (·.size)with
   | .agg ⟨xs⟩,.agg ⟨ys⟩,some c=>Oq (GP P d e) P e c xs ys (List.range n)
   |_,_,_=>none
  |_=>none
def K8(P:Program)(op:BinOp)(t:TypeId)(x y:Value):Option Value:=
 match x,y with
 | .agg _,.agg _=>cond (P.eqGuardType P.depth t) none (match op,GP P 40 t x y with
  | .eql,some b=>some (.bool b)
  | .neq,some b=>some (.bool (!b))
  |_,_=>none)
 |_,_=>bin P op t x y
def SA(P:Program)(t:TypeId)(parts:List (Nat×Value)):Option Value:=
 match(P.info? t).map (·.zero)with
 |some (some z)=>match P.underlying t with
  |some (.struct fs)=>match placesOf P fs.toList with
   |some ps=>match Instr.fill (λi=>ps[i]?) z.cells parts with
    |some cs=>some (.agg cs)
    |none=>none
   |none=>none
  |some (.array _ e)=>match(P.info? e).map (·.size)with
   |some sz=>match Instr.fill (λi=>some (i*sz,sz)) z.cells parts with
    |some cs=>some (.agg cs)
    |none=>none
   |none=>none
  |_=>none
 |_=>none
def Bw(P:Program)(t:TypeId)(y:Operand)(a b:Value):Option Bool:=
 match P.underlying t,a,b with
 |some (.pointer _),.pointer (some _),.pointer none=>some false
 |some (.pointer _),.pointer none,.pointer none=>some true
 |some (.slice _),.slice (some _) _ _,.slice none _ _=>some false
 |some (.slice _),.slice none _ _,.slice none _ _=>some true
 |some (.func _ _ _),.func _ _ _,.nilFunc=>some false
 |some (.func _ _ _),.nilFunc,.nilFunc=>some true
 |some (.interface _),.iface _ _,.nilIface=>some false
 |some (.interface _),.nilIface,.nilIface=>match y with
  | .const _=>some true
  |_=>none
 |_,_,_=>none
def SB(P:Program)(op:BinOp)(t:TypeId)(y:Operand)(a b:Value):Option Value:=
 match op,Bw P t y a b with
 | .eql,some c=>some (.bool c)
 | .neq,some c=>some (.bool (!c))
 |_,_=>none
theorem a6f{P:Program}{w:World}{t:TypeId}{y:Operand}{a b:Value}{c:Bool}(h:Bw P t y a b=some c)(m:Nat):(Op.equalIn (m+1) t a b).run P w=.ok c w:=by
 unfold Bw at h;split at h
 all_goals first
  |(cases h;done)
  |(rename_i hu;split at h<;>first|(cases h;done)|(cases h;simp[Op.equalIn,run_underlying hu]))
  |(rename_i hu;cases h;simp[Op.equalIn,run_underlying hu])
theorem ZS{P:Program}{w:World}{t:TypeId}{y:Operand}{a b:Value}{c:Bool}(h:Bw P t y a b=some c):(Op.equal t a b).run P w=.ok c w:=a6f h 9999
theorem ZT{P:Program}{w:World}{op:BinOp}{t:TypeId}{p y:Operand}{a b:Value}{c:Bool}(h:Bw P t y a b=some c):(eqGuard op t p y a b).run P w=.ok () w:=by
 unfold Bw at h;split at h
 all_goals first
  |(cases h;done)
  |(cases op<;>rfl)
  |(split at h<;>first|(cases h;done)|(cases op<;>simp[eqGuard]))
theorem ZU{P:Program}{w:World}{op:BinOp}{t:TypeId}{p y:Operand}{a b v:Value}(h:SB P op t y a b=some v):
  (binOp op t a b).run P w=.ok v w∧(eqGuard op t p y a b).run P w=.ok () w:=by
 unfold SB at h;split at h
 ·rename_i c hc;cases h;refine⟨?_,ZT hc⟩;have hr:=ZS (w:=w) hc;unfold Bw at hc;split at hc<;>first|(cases hc;done)|simp[binOp,hr]
 ·rename_i c hc;cases h;refine⟨?_,ZT hc⟩;have hr:=ZS (w:=w) hc;unfold Bw at hc;split at hc<;>first|(cases hc;done)|simp[binOp,hr]
 ·cases h
def step1(P:Program)(l:SF)(G:iB)(op:Op)(os:List Value):Option Out:=
 match op with
 | .move x| .assign x=>um (ev l G x) os
 | .binOp op t x y _=>
  match ev l G x,ev l G y with
  |some (.string ⟨⟨a⟩⟩),some (.string ⟨⟨b⟩⟩)=>
   match op with
   | .add=>some {v:=.string ⟨⟨a++b⟩⟩,os,ob:=some λ_=>gd l G (ln a+ln b≤9223372036854775807)}
   |_=>um (Ol op a b) os
  |some (.int k a),some (.int k' b)=>
   match op with
   | .quo=>cond (decide (k=k')) (some {v:=.int k (k.wrap (a.tdiv b)),os,ob:=some λ_=>gd l G (b≠0)}) none
   | .rem=>cond (decide (k=k')) (some {v:=.int k (a.tmod b),os,ob:=some λ_=>gd l G (b≠0)}) none
   | .shl=>some {v:=.int k (k.wrap (a*2^(Nat.min b.toNat k.bits))),os,ob:=some λ_=>gd l G (0≤b)}
   | .shr=>some {v:=.int k (a.fdiv (2^(Nat.min b.toNat k.bits))),os,ob:=some λ_=>gd l G (0≤b)}
   |_=>um (cond (decide (k=k')) (Oj op k a b) none) os
  |some a,some b=>um (match SB P op t y a b with|some v=>some v|none=>K8 P op t a b) os
  |_,_=>none
 | .build t parts=>
  match pq l G (parts.toList.map (·.2))with
  |some vs=>um (SA P t ((parts.toList.map (·.1)).zip vs)) os
  |none=>none
 | .field t x f=>
  match ev l G x,P.underlying t with
  |some (.agg ⟨cs⟩),some (.struct fs)=>match fs[f]? with
   |some fd=>um (xk P fd.type cs fd.offset) os
   |none=>none
  |_,_=>none
 | .unOp op _ x=>
  match op,ev l G x with
  | .not,some (.bool b)=>some {v:=.bool (!b),os,ob:=none}
  | .neg,some (.int k n)=>some {v:=.int k (k.wrap (0-n)),os,ob:=none}
  | .xor,some (.int k n)=>some {v:=.int k (fZ .xor k (if k.signed then-1 else k.max) n),os,ob:=none}
  |_,_=>none
 | .convert s d x=>
  match ev l G x,P.underlying s,P.underlying d with
  |some (.int _ n),some _,some (.int k)=>some {v:=.int k (k.wrap n),os,ob:=none}
  |some (.string a),some _,some .string=>some {v:=.string a,os,ob:=none}
  |some (.slice a n c),some _,some .string=>
   match os with
   |v::os=>some {v,os,ob:=some λw=>gd l G (∀w',Below w.heap.size w w'→(convert s d (.slice a n c)).run P w'=.ok v w')}
   |[]=>none
  |_,_,_=>none
 | .extract x i=>
  match ev l G x with
  |some (.tuple ⟨vs⟩)=>um vs[i]? os
  |_=>none
 | .nilCheck x=>
  match ev l G x with
  |some (.pointer (some a))=>some {v:=.pointer (some a),os,ob:=none}
  |some (.func (.func f) a c)=>some {v:=.func (.func f) a c,os,ob:=none}
  |some (.func (.method nm) ⟨[.iface t x]⟩ c)=>some {v:=.func (.method nm) ⟨[.iface t x]⟩ c,os,ob:=some λ_=>∀w',(nilAhead (P.types.size+Made.depth) t x nm).run P w'=.ok (some false) w'}
  |_=>none
 | .makeInterface T x=>
  match ev l G x,P.underlying T with
  |some _,some (.interface _)=>none
  |some v,some _=>some {v:=.iface T v,os,ob:=none}
  |_,_=>none
 | .typeAssert x _ A ok=>
  match ev l G x,P.underlying A with
  |some (.iface t v),some (.interface want)=>match(P.info? t).map λinf=>Instr.missingMethod want inf.methods with
   |some none=>some {v:=cond ok (.tuple ⟨[.iface t v,.bool true]⟩) (.iface t v),os,ob:=none}
   |_=>none
  |_,_=>none
 | .fieldAddr t x f=>
  match ev l G x,P.underlying t with
  |some (.pointer (some ⟨b,off,none⟩)),some (.struct fs)=>
   match fs[f]? with
   |some fd=>match(P.info? fd.type).map (·.size)with
    |some (_+1)=>some {v:=.pointer (some ⟨b,off+fd.offset,none⟩),os,ob:=none}
    |_=>none
   |none=>none
  |_,_=>none
 | .index t x i=>
  match ev l G x,ev l G i,P.underlying t with
  |some (.string ⟨⟨s⟩⟩),some (.int _ n),some .string=>some {v:=.int .u8 (bU s n),os,ob:=some λ_=>gd l G (0≤n∧n<ln s)}
  |some (.agg ⟨cs⟩),some (.int _ n),some (.array len e)=>
   match Sz cs,(P.info? e).map (·.size),P.underlying e with
   |some (k,q),some 1,some (.int _)=>cond (Nat.beq q.length len) (some {v:=.int k (q.getD n.toNat default),os,ob:=some λ_=>gd l G (0≤n∧n<(len:Int))}) none
   |some (k,q),some z,some (.array _ _)=>cond (Nat.beq q.length (len*z)) (some {v:=.agg ⟨Oo k q z n⟩,os,ob:=some λ_=>gd l G (0≤n∧n<(len:Int))}) none
   |_,_,_=>none
  |_,_,_=>none
 | .slice t x lo hi none=>
  match ev l G x,qk l G lo,qk l G hi,P.underlying t with
  |some (.string ⟨⟨s⟩⟩),some none,some none,some .string=>some {v:=.string ⟨⟨s⟩⟩,os,ob:=none}
  |some (.string ⟨⟨s⟩⟩),some (some (.int _ i)),some none,some .string=>some {v:=.string ⟨⟨V.sub s i (ln s)⟩⟩,os,ob:=some λ_=>gd l G (0≤i∧i≤ln s)}
  |some (.string ⟨⟨s⟩⟩),some none,some (some (.int _ j)),some .string=>some {v:=.string ⟨⟨V.sub s 0 j⟩⟩,os,ob:=some λ_=>gd l G (0≤j∧j≤ln s)}
  |some (.string ⟨⟨s⟩⟩),some (some (.int _ i)),some (some (.int _ j)),some .string=>some {v:=.string ⟨⟨V.sub s i j⟩⟩,os,ob:=some λ_=>gd l G (0≤i∧i≤j∧j≤ln s)}
  |some (.pointer (some ⟨b,off,none⟩)),some (some (.int _ i)),some none,some (.array len e)=>
   match(P.info? e).map (·.size)with
   |some (z+1)=>some {v:=.slice (some ⟨b,off+i.toNat*(z+1),none⟩) (len-i.toNat) (len-i.toNat),os,ob:=some λ_=>gd l G (0≤i∧i<(len:Int))}
   |_=>none
  |some (.pointer (some ⟨b,off,none⟩)),some none,some (some (.int _ j)),some (.array len e)=>
   match(P.info? e).map (·.size)with
   |some (_+1)=>some {v:=.slice (some ⟨b,off,none⟩) j.toNat len,os,ob:=some λ_=>gd l G (0≤j∧j≤(len:Int))}
   |_=>none
  |_,_,_,_=>none
 | .indexAddr t x i=>
  match ev l G x,ev l G i,P.underlying t with
  |some (.slice a n _),some (.int _ i),some (.slice e)=>
   match(P.info? e).map (·.size)with
   |some (z+1)=>some {v:=.pointer (some ⟨ab a,ao a+i.toNat*(z+1),none⟩),os,ob:=some λ_=>gd l G (eg a∧0≤i∧i<(n:Int))}
   |_=>none
  |some (.pointer (some ⟨b,off,none⟩)),some (.int _ i),some (.array len e)=>
   match(P.info? e).map (·.size)with
   |some (z+1)=>some {v:=.pointer (some ⟨b,off+i.toNat*(z+1),none⟩),os,ob:=some λ_=>gd l G (0≤i∧i<(len:Int))}
   |_=>none
  |_,_,_=>none
 | .load t x=>
  match ev l G x,os with
  |some (.pointer (some ⟨b,off,none⟩)),v::os=>
   match P.underlying t,v with
   |some (.struct _),.agg ⟨cs⟩=>cond (decide ((P.info? t).map (·.size)=some cs.length)) (some {v,os,ob:=some λw=>gd l G (bH b off cs 0 w)}) none
   |some (.array _ _),.agg ⟨cs⟩=>cond (decide ((P.info? t).map (·.size)=some cs.length)) (some {v,os,ob:=some λw=>gd l G (bH b off cs 0 w)}) none
   |some (.struct _),_=>none
   |some (.array _ _),_=>none
   |some _,v=>some {v,os,ob:=some λw=>gd l G (c9 ⟨b,off,none⟩ v w)}
   |none,_=>none
  |_,_=>none
 | .makeFunc fn first rP=>
  match pq l G first.toList,pq l G rP.toList with
  |some a,some b=>some {v:=.func fn ⟨a⟩ ⟨b⟩,os,ob:=none}
  |_,_=>none
 | .call c=>
  match c.callee with
  | .builtin .len=>
   match c.args.toList,c.argTypes.toList with
   |[x],[t]=>match ev l G x,P.underlying t with
    |some (.string ⟨⟨s⟩⟩),some .string=>some {v:=.int .i64 (ln s),os,ob:=none}
    |some (.slice _ n _),some (.slice _)=>some {v:=.int .i64 n,os,ob:=none}
    |_,some (.array n _)=>some {v:=.int .i64 n,os,ob:=none}
    |_,_=>none
   |_,_=>none
  | .builtin .min=>match pq l G c.args.toList with
   |some vs=>um (On .min vs) os
   |none=>none
  | .builtin .max=>match pq l G c.args.toList with
   |some vs=>um (On .max vs) os
   |none=>none
  | .value x=>match callee l G x,pq l G c.args.toList,os with
   |some (f,first,rP),some as,v::os=>some {v,os,ob:=some λw=>gd l G (lG P f ⟨first++as++rP⟩ v w)}
   |_,_,_=>none
  |_=>none
 |_=>none
def Ot(l:SF)(G:iB)(c a b:Operand):Option Value:=
 match c with
 | .tmp s=>match ev l G c,ev l ((s,true)::G) a,ev l ((s,false)::G) b with
  |some (.bool t),some (.bool x),some (.bool y)=>some (.bool (cond t x y))
  |some (.bool false),_,some (.bool y)=>some (.bool y)
  |some (.bool true),some (.bool x),_=>some (.bool x)
  |_,_,_=>none
 |_=>none
def Yields(P:Program)(o:Oper)(a:Act)(w:World)(v:Value):Prop:=
 ∀w',Below w.heap.size w w'→o.quietAt P a (λrO=>Below w.heap.size w rO) w' v
theorem a6g{P:Program}{o:Oper}{a:Act}{w:World}{v:Value}
  (h:∀w',Below w.heap.size w w'→(execOp a.eval o).run P w'=.ok (.value v) w'):Yields P o a w v:=by
 intro w' hw;unfold Oper.quietAt;rw[h w' hw];exact⟨rfl,rfl⟩
theorem oY{n:Nat}{l:SF}{a:Act}(H:aj D n l a){G:iB}(hG:kY a G)(hk:zN l G G=true){p:Prop}(h:gd l G p):p:=by
 unfold gd at h;split at h
 ·exact h
 ·exact h (ZP H hG hk (λ_ hp=>hp))
theorem Ou{n:Nat}{l:SF}{a:Act}(H:aj D n l a){G:iB}(hG:kY a G):∀{xs:List Operand}{vs:List Value},pq l G xs=some vs→xs.map a.eval=vs
 |[],vs,h=>by simp[pq]at h;subst h;rfl
 |x::r,vs,h=>by
  unfold pq at h;split at h
  ·rename_i v vs' h1 h2;simp only[Option.some.injEq]at h;subst h;simp only[List.map_cons,H.ev hG h1,Ou H hG h2]
  ·cases h
theorem DU{n:Nat}{l:SF}{a:Act}(H:aj D n l a){G:iB}(hG:kY a G){xs:Array Operand}{vs:List Value}(h:pq l G xs.toList=some vs):xs.map a.eval=⟨vs⟩:=by
 rw[←Ou H hG h];cases xs;simp
theorem a6h{P:Program}{w:World}{t:TypeId}{s:List UInt8}{k:IntKind}{i:Int}(hu:P.underlying t=some .string)(h0:0≤i)(h1:i<ln s):
  (Instr.index t (.string ⟨⟨s⟩⟩) (.int k i)).run P w=.ok (.int .u8 (bU s i)) w:=by
 have hb:i.toNat<s.length:=by unfold ln at h1;omega
 have hg:(ByteArray.mk ⟨s⟩)[i.toNat]?=some s[i.toNat]:=by
  rw[ByteArray.getElem?_lt' _ _ (by simpa[ByteArray.size]using hb)];rfl
 have hd:s[i.toNat]?.getD 0=s[i.toNat]:=by simp[List.getElem?_eq_getElem hb]
 simp[Instr.index,asIntOf,run_underlying hu,h0,hg,bU,hd]
theorem a6i{P:Program}{w:World}{t:TypeId}{s:List UInt8}(hu:P.underlying t=some .string){lo hi:Option Value}{i j:Int}
  (xl:(lo=none∧i=0)∨∃k,lo=some (.int k i))(DV:(hi=none∧j=ln s)∨∃k,hi=some (.int k j))(h0:0≤i)(h1:i≤j)(h2:j≤ln s):
  (Instr.slice t (.string ⟨⟨s⟩⟩) lo hi none).run P w=.ok (.string ⟨⟨V.sub s i j⟩⟩) w:=by
 have e:(ByteArray.mk ⟨s⟩).extract i.toNat j.toNat=⟨⟨V.sub s i j⟩⟩:=by
  have:=ByteArray.extract_mk s i.toNat j.toNat;exact this
 have hs:(ByteArray.mk ⟨s⟩).size=s.length:=rfl;have hj:j.toNat≤s.length:=by unfold ln at h2;omega
 have SC:j≤(s.length:Int):=h2;rcases DV with⟨rfl,rfl⟩|⟨k',rfl⟩<;>rcases xl with⟨rfl,rfl⟩|⟨k,rfl⟩
 ·have:(ln s).toNat=s.length:=by simp[ln]
  rw[this]at e;have e2:s=V.sub s 0 (ln s):=by simp[V.sub,ln]
  simp[Instr.slice,run_underlying hu,Instr.sliceBounds];exact e2
 ·have:(ln s).toNat=s.length:=by simp[ln]
  rw[this]at e;have SD:i≤(s.length:Int):=h1;simp[Instr.slice,run_underlying hu,Instr.sliceBounds,Instr.sliceBound,asIntOf,hs,h0,SD,e]
 ·simp only[Int.toNat_zero]at e;simp[Instr.slice,run_underlying hu,Instr.sliceBounds,Instr.sliceBound,asIntOf,hs,h1,SC,e]
 ·have SE:0≤j:=by omega
  have SD:¬max j 0<i:=by omega
  simp[Instr.slice,run_underlying hu,Instr.sliceBounds,Instr.sliceBound,asIntOf,hs,h0,SE,SD,SC,e]
theorem run_loadCells{P:Program}{w:World}{b off:Nat}:∀(cs:List Value)(j:Nat)(acc:Array Value),(∀i (h:i<cs.length),w.cell? ⟨b,off+(j+i),none⟩=some cs[i])→
  (loadCellsFrom ⟨b,off,none⟩ j cs.length acc).run P w=.ok (acc++cs.toArray) w
 |[],j,acc,_=>by simp[loadCellsFrom]
 |v::r,j,acc,h=>by
  have h0:=h 0 (by simp);have ha:(Addr.add ⟨b,off,none⟩ j)=⟨b,off+j,none⟩:=by
   unfold Addr.add;split
   ·rename_i e;subst e;rfl
   ·rfl
  simp only[Nat.add_zero,List.getElem_cons_zero]at h0;have hr:=run_loadCells (P:=P) (w:=w) r (j+1) (acc.push v) (λi hi=>by
   have:=h (i+1) (by simpa using hi);simpa[Nat.add_assoc,Nat.add_comm 1 i]using this)
  simp only[List.length_cons,loadCellsFrom,Sem.run_bind,ha,run_load,h0,Result.andThen_ok,hr];simp
theorem SG{b off:Nat}{w w':World}(hb:Below w.heap.size w w'):∀{cs:List Value}{j:Nat},bH b off cs j w→∀i (h:i<cs.length),w'.cell? ⟨b,off+(j+i),none⟩=some cs[i]
 |v::r,j,h,0,_=>by
  have:=h.1;have h2:=hb.cell this.2;simp only[Nat.add_zero,List.getElem_cons_zero];rw[h2];exact this.1
 |v::r,j,h,i+1,hi=>by
  have:=SG hb (cs:=r) (j:=j+1) h.2 i (by simpa using hi);simpa[Nat.add_assoc,Nat.add_comm 1 i]using this
theorem Addr.add_zero'(b off n:Nat):Addr.add ⟨b,off,none⟩ n=⟨b,off+n,none⟩:=by
 unfold Addr.add;split
 ·rename_i e;subst e;rfl
 ·rfl
theorem ot{P:Program}{w:World}{t:TypeId}{z:Nat}(h:(P.info? t).map (·.size)=some z):(sizeOf t).run P w=.ok z w:=by
 cases hi:P.info? t with
 |none=>simp[hi]at h
 |some i=>
  simp[hi]at h;simp[sizeOf,typeInfo,hi,h]
theorem xm{v:Option Value}{os:List Value}{out:Out}(h:um v os=some out):v=some out.v∧out.ob=none:=by
 cases v with
 |none=>simp[um]at h
 |some u=>simp[um]at h;subst h;exact⟨rfl,rfl⟩
theorem ZV{P:Program}{w:World}{b:Builtin}{uo:Array TypeId}{ty:TypeId}{cs:Array Bool}{vs:List Value}{v:Value}(h:On b vs=some v):
  (builtin b uo ty cs ⟨vs⟩).run P w=.ok (.value v) w:=by
 unfold On at h;split at h
 ·rename_i k x k' y;cases hc:decide (k=k')with
  |false=>rw[hc]at h;cases h
  |true=>
   rw[hc]at h;obtain rfl:k=k':=by simpa using hc
   simp only[cond_true]at h;split at h
   ·cases h;simp[builtin,Builtin.min_,Builtin.min2]
   ·cases h;simp[builtin,Builtin.max_,Builtin.max2]
   ·cases h
 ·rename_i k x k' y k2 z;cases hc:decide (k=k')&&decide (k=k2)with
  |false=>rw[hc]at h;cases h
  |true=>
   rw[hc]at h;rw[Bool.and_eq_true,decide_eq_true_eq,decide_eq_true_eq]at hc;obtain⟨rfl,rfl⟩:=hc;simp only[cond_true]at h;split at h
   ·cases h;simp[builtin,Builtin.max_,Builtin.max2]
   ·cases h
 ·rename_i k x k' y k2 z k3 u;cases hc:decide (k=k')&&(decide (k=k2)&&decide (k=k3))with
  |false=>rw[hc]at h;cases h
  |true=>
   rw[hc]at h;rw[Bool.and_eq_true,Bool.and_eq_true,decide_eq_true_eq,decide_eq_true_eq,decide_eq_true_eq]at hc;obtain⟨rfl,rfl,rfl⟩:=hc;simp only[cond_true]at h;split at h
   ·cases h;simp[builtin,Builtin.max_,Builtin.max2,Om];rfl
   ·cases h
 ·cases h
theorem a6j{P:Program}{w w':World}{t:TypeId}{b off:Nat}{v:Value}{d:TypeDesc}(hu:P.underlying t=some d)
  (hd:(match d with| .struct _| .array _ _=>true|_=>false)=false)(hb:Below w.heap.size w w')(h:c9 ⟨b,off,none⟩ v w):
  (Instr.loadAt t (.pointer (some ⟨b,off,none⟩))).run P w'=.ok v w':=by
 have hc:w'.cell? ⟨b,off,none⟩=some v:=by rw[hb.cell h.2];exact h.1
 have hi:(isAgg t).run P w'=.ok false w':=by
  cases d<;>simp at hd<;>simp[isAgg,run_underlying hu]
 simp[Instr.loadAt,Instr.sureAddr,loadVar,hi,hc]
theorem ZW{P:Program}{w w':World}{t:TypeId}{b off:Nat}{cs:List Value}{d:TypeDesc}(hu:P.underlying t=some d)
  (hd:(match d with| .struct _| .array _ _=>true|_=>false)=true)(hz:(P.info? t).map (·.size)=some cs.length)(hb:Below w.heap.size w w')(h:bH b off cs 0 w):
  (Instr.loadAt t (.pointer (some ⟨b,off,none⟩))).run P w'=.ok (.agg ⟨cs⟩) w':=by
 have hi:(isAgg t).run P w'=.ok true w':=by
  cases d<;>simp at hd<;>simp[isAgg,run_underlying hu]
 have hl:=run_loadCells (P:=P) (w:=w') (b:=b) (off:=off) cs 0 #[] (SG hb h);simp only[Instr.loadAt,Instr.sureAddr,loadVar,Sem.run_bind,Sem.run_pure,Result.andThen_ok,hi,if_true,ot hz,loadCells,hl];simp
theorem ZX{k:IntKind}:∀{cs:List Value}{q:List Int},K5 k cs=some q→cs=q.map (Value.int k)
 |[],q,h=>by simp[K5]at h;subst h;rfl
 |v::r,q,h=>by
  unfold K5 at h;split at h
  ·rename_i k' x q' hr;cases hc:decide (k=k')with
   |false=>rw[hc]at h;cases h
   |true=>
    rw[hc]at h;simp only[cond_true,Option.some.injEq]at h;subst h;obtain rfl:k=k':=by simpa using hc
    rw[ZX hr];rfl
  ·cases h
theorem ZY{cs:List Value}{k:IntKind}{q:List Int}(h:Sz cs=some (k,q)):cs=q.map (Value.int k):=by
 unfold Sz at h;split at h
 ·split at h
  ·rename_i hq;simp only[Option.some.injEq,Prod.mk.injEq]at h;obtain⟨rfl,rfl⟩:=h;exact ZX hq
  ·cases h
 ·cases h
theorem DW{P:Program}{w:World}{t:TypeId}{cs:List Value}{off:Nat}{v:Value}(h:xk P t cs off=some v):(part t ⟨cs⟩ off).run P w=.ok v w:=by
 unfold xk at h;split at h
 ·rename_i d hu;cases hd:GO d with
  |true=>
   rw[hd]at h;simp only[cond_true]at h;split at h
   ·rename_i z hz;cases h;have hi:(isAgg t).run P w=.ok true w:=by cases d<;>simp[GO]at hd<;>simp[isAgg,run_underlying hu]
    simp only[part,Sem.run_bind,hi,Result.andThen_ok,if_true,ot hz,Sem.run_pure];congr 2;apply Array.ext';simp
   ·cases h
  |false=>
   rw[hd]at h;simp only[cond_false]at h;have hi:(isAgg t).run P w=.ok false w:=by cases d<;>simp[GO]at hd<;>simp[isAgg,run_underlying hu]
   have:(Array.mk cs)[off]?=some v:=by simpa using h
   simp only[part,Sem.run_bind,hi,Result.andThen_ok,Bool.false_eq_true,if_false,this,Sem.run_pure]
 ·cases h
theorem Ov{P:Program}:∀(d m:Nat)(t:TypeId)(x y:Value)(b:Bool)(w:World),d≤m→GP P d t x y=some b→(Op.equalIn m t x y).run P w=.ok b w
 |0,m,t,x,y,b,w,_,h=>by simp[GP]at h
 |d+1,0,t,x,y,b,w,hm,h=>by omega
 |d+1,m+1,t,x,y,b,w,hm,h=>by
  unfold GP at h;split at h
  ·rename_i hu;split at h
   ·cases h;exact run_equalIn_bool w m t _ _ hu
   ·cases h
  ·rename_i k0 hu;split at h
   ·rename_i k a k' b';cases hc:decide (k=k')with
    |false=>rw[hc]at h;cases h
    |true=>
     rw[hc]at h;obtain rfl:k=k':=by simpa using hc
     simp only[cond_true,Option.some.injEq]at h;subst h;exact run_equalIn_int w m t k _ _ _ hu
   ·cases h
  ·rename_i hu;split at h
   ·rename_i a b';cases h;have ha:(ByteArray.mk ⟨a⟩).toList=a:=ByteArray.toList_mk a;have hb:(ByteArray.mk ⟨b'⟩).toList=b':=ByteArray.toList_mk b';rw[run_equalIn_string w m t _ _ hu,ha,hb]
   ·cases h
  ·rename_i fs hu;split at h
   ·rename_i xs ys;cases hs:P.stoodInHeld t with
    |true=>rw[hs]at h;cases h
    |false=>
     rw[hs]at h;simp only[cond_false]at h;have hf:P.fieldsOf t=fs:=by simp[Program.fieldsOf,hu]
     rw[run_equalIn_struct w m t _ _ (by rw[hf];exact hu) hs,hf];have SI:d≤m:=by omega
     generalize fs.toList=l at h;clear hu hf
     induction l generalizing b with
     |nil=>
      simp only[K7,Option.some.injEq]at h;subst h;simp[Op.eqFields]
     |cons fd r ih=>
      unfold K7 at h;split at h
      ·rename_i hQ;have hQ:fd.name≠ "_" :=by simpa using hQ
       split at h
       ·rename_i a b' h1 h2;split at h
        ·rename_i p q h3 h4;cases h;have e1:=DW (w:=w) h1;have e2:=DW (w:=w) h2;have e3:=Ov d m fd.type a b' p w SI h3;simp only[Op.eqFields,if_pos hQ,Sem.run_bind,e1,e2,e3,Result.andThen_ok];cases p with
         |false=>simp
         |true=>simpa using ih _ h4
        ·cases h
       ·cases h
      ·rename_i hQ;have hQ:¬fd.name≠ "_" :=by simpa using hQ
       simp only[Op.eqFields,if_neg hQ];exact ih _ h
   ·cases h
  ·rename_i n e hu;split at h
   ·rename_i xs ys c hc;cases n7:P.info? e with
    |none=>simp[n7]at hc
    |some inf=>
     have K9:P.cellsOf e=c:=by simp[n7]at hc;simp[Program.cellsOf,n7,hc]
     rw[run_equalIn_array w m _ _ hu n7,K9];have SI:d≤m:=by omega
     generalize List.range n=l at h
     induction l generalizing b with
     |nil=>
      simp only[Oq,Option.some.injEq]at h;subst h;simp[Op.eqItems]
     |cons i r ih=>
      unfold Oq at h;split at h
      ·rename_i a b' h1 h2;split at h
       ·rename_i p q h3 h4;cases h;have e1:=DW (w:=w) h1;have e2:=DW (w:=w) h2;have e3:=Ov d m e a b' p w SI h3;simp only[Op.eqItems,Sem.run_bind,e1,e2,e3,Result.andThen_ok];cases p with
        |false=>simp
        |true=>simpa using ih _ h4
       ·cases h
      ·cases h
   ·cases h
  ·cases h
theorem a6k{P:Program}{w:World}{op:BinOp}{t:TypeId}{x y v:Value}(h:K8 P op t x y=some v):
  (binOp op t x y).run P w=.ok v w:=by
 unfold K8 at h;split at h
 ·cases hg:P.eqGuardType P.depth t with
  |true=>rw[hg]at h;cases h
  |false=>
   rw[hg]at h;simp only[cond_false]at h;split at h
   ·rename_i b he;cases h;rw[run_eql_struct,Ov 40 10000 t _ _ b w (by omega) he];rfl
   ·rename_i b he;cases h;rw[run_neq_struct,Ov 40 10000 t _ _ b w (by omega) he];rfl
   ·cases h
 ·exact a6b h
theorem a6l{P:Program}{w:World}{op DT:BinOp}{t:TypeId}{p q:Operand}{x y v:Value}(h:K8 P op t x y=some v):
  (eqGuard DT t p q x y).run P w=.ok () w:=by
 unfold K8 at h;split at h
 ·cases hg:P.eqGuardType P.depth t with
  |true=>rw[hg]at h;cases h
  |false=>exact run_eqGuard_agg w DT t p q _ _ hg
 ·exact a6c h
theorem SJ(f:Operand→Value):∀q:List (Nat×Operand),q.map (λp=>(p.1,f p.2))=(q.map (·.1)).zip ((q.map (·.2)).map f)
 |[]=>rfl
 |x::r=>by simp only[List.map_cons,List.zip_cons_cons,SJ f r]
theorem run_places{P:Program}{w:World}:∀(fs:List Field)(ps:List (Nat×Nat)),placesOf P fs=some ps→((fs.mapM λf=>do pure (f.offset,←sizeOf f.type):Sem (List (Nat×Nat)))).run P w=.ok ps w
 |[],ps,h=>by simp[placesOf]at h;subst h;simp
 |f::r,ps,h=>by
  unfold placesOf at h;split at h
  ·rename_i z qs hz hq;cases h;have ih:=run_places (w:=w) r qs hq;simp only[List.mapM_cons,Sem.run_bind,ot hz,Result.andThen_ok,Sem.run_pure,ih]
  ·cases h
theorem a6m{P:Program}{w:World}{t:TypeId}{parts:Array (Nat×Value)}{v:Value}(h:SA P t parts.toList=some v):(Instr.build t parts).run P w=.ok v w:=by
 unfold SA at h;split at h
 ·rename_i z hz;have yA:(zeroValue t).run P w=.ok z w:=by
   cases hi:P.info? t with
   |none=>simp[hi]at hz
   |some inf=>
    simp[hi]at hz;simp[zeroValue,typeInfo,hi,hz]
  split at h
  ·rename_i fs hu;split at h
   ·rename_i ps hp;split at h
    ·rename_i cs hc;cases h;have hm:(fs.mapM λf=>do pure (f.offset,←sizeOf f.type):Sem (Array (Nat×Nat))).run P w=.ok ⟨ps⟩ w:=by
      have:=run_places (w:=w) fs.toList ps hp;rw[Array.mapM_eq_mapM_toList];simp only[map_eq_pure_bind,Sem.run_bind,this,Result.andThen_ok,Sem.run_pure]
     have oZ:Instr.fill (λx=>(Array.mk ps)[x]?) z.cells parts.toList=some cs:=by
      rw[←hc];simp
     simp only[Instr.build,Sem.run_bind,yA,run_underlying hu,Result.andThen_ok,hm,oZ,Sem.run_pure]
    ·cases h
   ·cases h
  ·rename_i n e hu;split at h
   ·rename_i sz lH;split at h
    ·rename_i cs hc;cases h;simp only[Instr.build,Sem.run_bind,yA,run_underlying hu,Result.andThen_ok,ot lH,hc,Sem.run_pure]
    ·cases h
   ·cases h
  ·cases h
 ·cases h
def a6n:Op→Bool
 | .call ⟨.value _,_,_⟩=>true
 |_=>false
def Yr(P:Program)(o:Oper)(a:Act)(w:World)(v:Value):Prop:=
 (∀w',Below w.heap.size w w'→(execOp a.eval o).run P w'=.ok (.value v) w')∨(a6n o.op=true∧Yields P o a w v)
theorem Yr.run{P:Program}{o:Oper}{a:Act}{w:World}{v:Value}(h:∀w',Below w.heap.size w w'→(execOp a.eval o).run P w'=.ok (.value v) w'):Yr P o a w v:=.inl h
theorem Yr.ZZ{P:Program}{o:Oper}{a:Act}{w:World}{v:Value}(h:Yr P o a w v):Yields P o a w v:=by
 rcases h with h|h
 ·exact a6g h
 ·exact h.2
set_option maxHeartbeats 1000000 in
theorem a6o{P:Program}{n:Nat}{l:SF}{a:Act}{G:iB}{w:World}{op:Op}{os:List Value}{out:Out}{dst:Option Tmp}{ty:TypeId}{pos:String}{after:Array Edge}{guard:Option (Nat×Bool)}
  (H:aj D n l a)(hG:kY a G)(hk:zN l G G=true)(h:step1 P l G op os=some out)(eP:∀ob,out.ob=some ob→ob w):Yr P ⟨dst,op,ty,pos,after,guard⟩ a w out.v:=by
 unfold step1 at h;split at h
 ·
  obtain⟨hv,_⟩:=xm h;exact Yr.run λw' _=>by simp[execOp,H.ev hG hv]
 ·obtain⟨hv,_⟩:=xm h;exact Yr.run λw' _=>by simp[execOp,H.ev hG hv]
 ·
  rename_i op t x y yt;split at h
  ·rename_i s1 s2 e1 e2;have e1:=H.ev hG e1;have e2:=H.ev hG e2;split at h
   ·simp only[Option.some.injEq]at h;subst h;have ho:=oY H hG hk (eP _ rfl);refine Yr.run λw' _=>?_;have hr:=run_string_add_sum (P:=P) (w:=w') ⟨⟨s1⟩⟩ ⟨⟨s2⟩⟩ (by simp only[ByteArray.size];unfold ln at ho;simp;omega);have hc:(ByteArray.mk ⟨s1⟩)++(ByteArray.mk ⟨s2⟩)=ByteArray.mk ⟨s1++s2⟩:=ByteArray.mk_append_mk s1 s2;rw[hc]at hr;simp[execOp,e1,e2,eqGuard,binOp,hr]
   ·obtain⟨hv,_⟩:=xm h;refine Yr.run λw' _=>?_;have hg:∀p q,(eqGuard op t p q (.string ⟨⟨s1⟩⟩) (.string ⟨⟨s2⟩⟩)).run P w'=.ok () w':=λp q=>by cases op<;>rfl
    simp[execOp,e1,e2,hg,ZR hv]
  ·rename_i k i1 k' i2 e1 e2;have e1:=H.ev hG e1;have e2:=H.ev hG e2;have hg:∀w' p q,(eqGuard op t p q (.int k i1) (.int k' i2)).run P w'=.ok () w':=λw' p q=>by cases op<;>rfl
   split at h
   ·cases hc:decide (k=k')with
    |false=>rw[hc]at h;cases h
    |true=>
     rw[hc]at h;obtain rfl:k=k':=by simpa using hc
     simp only[cond_true,Option.some.injEq]at h;subst h;have ho:=oY H hG hk (eP _ rfl);exact Yr.run λw' _=>by simp[execOp,e1,e2,hg,binOp,Op.intDiv,ho]
   ·cases hc:decide (k=k')with
    |false=>rw[hc]at h;cases h
    |true=>
     rw[hc]at h;obtain rfl:k=k':=by simpa using hc
     simp only[cond_true,Option.some.injEq]at h;subst h;have ho:=oY H hG hk (eP _ rfl);exact Yr.run λw' _=>by simp[execOp,e1,e2,hg,binOp,Op.intDiv,ho]
   ·simp only[Option.some.injEq]at h;subst h;have ho:=oY H hG hk (eP _ rfl);have SK:¬i2<0:=by omega
    exact Yr.run λw' _=>by simp[execOp,e1,e2,hg,binOp,Op.shift,SK,Nat.min_def]
   ·simp only[Option.some.injEq]at h;subst h;have ho:=oY H hG hk (eP _ rfl);have SK:¬i2<0:=by omega
    exact Yr.run λw' _=>by simp[execOp,e1,e2,hg,binOp,Op.shift,SK,Nat.min_def]
   ·rename_i hq hr hs1 GQ;obtain⟨hv,_⟩:=xm h;cases hc:decide (k=k')with
    |false=>rw[hc]at hv;cases hv
    |true=>
     rw[hc]at hv;obtain rfl:k=k':=by simpa using hc
     have hs:GN op=false:=by cases op<;>simp_all [GN]
     exact Yr.run λw' _=>by simp[execOp,e1,e2,hg,ZQ hs hv]
  ·rename_i v1 v2 _ _ e1 e2;have e1:=H.ev hG e1;have e2:=H.ev hG e2;obtain⟨hv,_⟩:=xm h;split at hv
   ·rename_i v3 hn;simp only[Option.some.injEq]at hv;subst hv;exact Yr.run λw' _=>by simp[execOp,e1,e2,(ZU (w:=w') (p:=x) hn).1,(ZU (w:=w') (p:=x) hn).2]
   ·exact Yr.run λw' _=>by simp[execOp,e1,e2,a6l hv,a6k hv]
  ·cases h
 ·
  rename_i t parts;split at h
  ·rename_i vs e1;obtain⟨hv,_⟩:=xm h;refine Yr.run λw' _=>?_;have hp:(parts.map λp=>(p.1,a.eval p.2)).toList=(parts.toList.map (·.1)).zip vs:=by
    rw[←Ou H hG e1,←SJ];cases parts;simp
   have hr:=a6m (P:=P) (w:=w') (t:=t) (parts:=parts.map λp=>(p.1,a.eval p.2)) (by rw[hp];exact hv);simp only[execOp];rw[show(parts.map λx=>match x with|(i,x)=>(i,a.eval x))=parts.map λp=>(p.1,a.eval p.2)from rfl];simp[hr]
  ·cases h
 ·
  split at h
  ·rename_i cs fs e1 hu;split at h
   ·rename_i fd hf;obtain⟨hv,_⟩:=xm h;exact Yr.run λw' _=>by simp[execOp,H.ev hG e1,Instr.field,run_underlying hu,hf,asAgg,DW hv]
   ·cases h
  ·cases h
 ·
  split at h
  ·rename_i b e1;cases h;exact Yr.run λw' _=>by simp[execOp,H.ev hG e1,Op.unary]
  ·rename_i k m e1;cases h;exact Yr.run λw' _=>by simp[execOp,H.ev hG e1,Op.unary,Op.intArith]
  ·rename_i k m e1;cases h;exact Yr.run λw' _=>by simp[execOp,H.ev hG e1,Op.unary,Op.intBits,fZ]
  ·cases h
 ·
  split at h
  ·rename_i k m d k' e1 Ox Oy;cases h;refine Yr.run λw' _=>?_;simp only[execOp,H.ev hG e1,convert,Sem.run_bind,run_underlying Ox,run_underlying Oy,Result.andThen_ok];simp[Conv.intToInt]
  ·rename_i s1 d e1 Ox Oy;cases h;refine Yr.run λw' _=>?_;simp only[execOp,H.ev hG e1,convert,Sem.run_bind,run_underlying Ox,run_underlying Oy,Result.andThen_ok];cases d<;>simp
  ·rename_i a1 m c d e1 Ox Oy;split at h
   ·cases h;have ho:=oY H hG hk (eP _ rfl);exact Yr.run λw' hw=>by simp[execOp,H.ev hG e1,ho w' hw]
   ·cases h
  ·cases h
 ·
  split at h
  ·rename_i vs e1;obtain⟨hv,_⟩:=xm h;refine Yr.run λw' _=>?_;have:(Array.mk vs)[‹Nat›]?=some out.v:=by simpa using hv
   simp[execOp,H.ev hG e1,Instr.extract,this]
  ·cases h
 ·
  split at h
  ·rename_i a1 e1;cases h;exact Yr.run λw' _=>by simp[execOp,H.ev hG e1]
  ·rename_i f a1 c1 e1;cases h;exact Yr.run λw' _=>by simp[execOp,H.ev hG e1]
  ·rename_i nm t1 x1 c1 e1;cases h;have ho:=eP _ rfl;exact Yr.run λw' _=>by simp[execOp,H.ev hG e1,ho w']
  ·cases h
 ·
  rename_i T1 y1;split at h
  ·cases h
  ·rename_i v1 d hd e1 hu;cases h;refine Yr.run λw' _=>?_;have hr:(Instr.makeInterface T1 v1).run P w'=.ok (.iface T1 v1) w':=by
    simp only[Instr.makeInterface,Sem.run_bind,run_underlying hu,Result.andThen_ok];cases d<;>first|rfl|exact(hd _ rfl).elim
   simp[execOp,H.ev hG e1,hr]
  ·cases h
 ·
  split at h
  ·rename_i t1 v1 want e1 hu;split at h
   ·rename_i hm;cases h;obtain⟨inf,hi,yB⟩:=Option.map_eq_some_iff.1 hm;refine Yr.run λw' _=>?_;rename_i okk _ _ _ _ _ _;simp[execOp,H.ev hG e1,Instr.typeAssert,run_underlying hu,typeInfo,hi,yB]
   ·cases h
  ·cases h
 ·
  split at h
  ·rename_i b off fs e1 hu;split at h
   ·rename_i fd hf;split at h
    ·rename_i z hz;cases h;refine Yr.run λw' _=>?_;have uq:∀w,(sizeOf fd.type).run P w=.ok (z+1) w:=λw=>ot hz;simp[execOp,H.ev hG e1,Instr.fieldAt,run_underlying hu,hf,Instr.sureAddr,fieldPlace,uq,Addr.add_zero']
    ·cases h
   ·cases h
  ·cases h
 ·
  split at h
  ·rename_i s1 k m e1 e2 hu;cases h;have ho:=oY H hG hk (eP _ rfl);exact Yr.run λw' _=>by simp[execOp,H.ev hG e1,H.ev hG e2,a6h hu ho.1 ho.2]
  ·rename_i cs k m len e e1 e2 hu;split at h
   ·rename_i k2 q k3 hq hz he;cases hb:Nat.beq q.length len with
    |false=>rw[hb]at h;cases h
    |true=>
     rw[hb]at h;simp only[cond_true,Option.some.injEq]at h;subst h;have ho:=oY H hG hk (eP _ rfl);have hlen:=Nat.eq_of_beq_eq_true hb;have Bx:=ZY hq;have hl:m.toNat<q.length:=by omega
     have hv:xk P e cs (m.toNat*1)=some (.int k2 (q.getD m.toNat default)):=by
      unfold xk;rw[he];simp only[GO,cond_false,Nat.mul_one,Bx,List.getElem?_map,List.getElem?_eq_getElem hl,Option.map_some,List.getD_eq_getElem?_getD,Option.getD_some]
     exact Yr.run λw' _=>by
      have hp:=DW (w:=w') hv;simp only[execOp,H.ev hG e1,H.ev hG e2,Instr.index,asIntOf,Sem.run_bind,Sem.run_pure,Result.andThen_ok,run_underlying hu];rw[if_pos ho];simp only[Sem.run_bind,ot hz,Result.andThen_ok,hp]
   ·rename_i k2 q z m2 e3 hq hz he;cases hb:Nat.beq q.length (len*z)with
    |false=>rw[hb]at h;cases h
    |true=>
     rw[hb]at h;simp only[cond_true,Option.some.injEq]at h;subst h;have ho:=oY H hG hk (eP _ rfl);have hlen:=Nat.eq_of_beq_eq_true hb;have Bx:=ZY hq;have hl:m.toNat*z+z≤q.length:=by
      have h1:(m.toNat+1)*z≤len*z:=Nat.mul_le_mul_right _ (by omega);rw[Nat.add_mul,Nat.one_mul]at h1;omega
     have hv:xk P e cs (m.toNat*z)=some (.agg ⟨Oo k2 q z m⟩):=by
      unfold xk;rw[he];simp only[GO,cond_true,hz];rw[Bx,a6e hl]
     exact Yr.run λw' _=>by
      have hp:=DW (w:=w') hv;simp only[execOp,H.ev hG e1,H.ev hG e2,Instr.index,asIntOf,Sem.run_bind,Sem.run_pure,Result.andThen_ok,run_underlying hu];rw[if_pos ho];simp only[Sem.run_bind,ot hz,Result.andThen_ok,hp]
   ·cases h
  ·cases h
 ·
  rename_i t x lo hi;have key:∀(s:List UInt8)(tl lI:Option Value)(i j:Int),ev l G x=some (.string ⟨⟨s⟩⟩)→P.underlying t=some .string→lo.map a.eval=tl→hi.map a.eval=lI→
    ((tl=none∧i=0)∨∃k,tl=some (.int k i))→((lI=none∧j=ln s)∨∃k,lI=some (.int k j))→0≤i→i≤j→j≤ln s→∀w',
    (execOp a.eval ⟨dst,.slice t x lo hi none,ty,pos,after,guard⟩).run P w'=.ok (.value (.string ⟨⟨V.sub s i j⟩⟩)) w':=by
   intro s tl lI i j e1 hu hl hh h1 h2 h3 h4 h5 w';have hr:=a6i (P:=P) (w:=w') hu h1 h2 h3 h4 h5;simp only[execOp,H.ev hG e1,Instr.sliceAt,Sem.run_bind,run_underlying hu,Result.andThen_ok,hl,hh,Option.map_none];rw[hr];rfl
  have GR:∀(y:Option Operand),qk l G y=some none→y.map a.eval=none:=by
   intro y hy;cases y with
   |none=>rfl
   |some z=>
    simp only[qk]at hy;split at hy<;>cases hy
  have opts:∀(y:Option Operand) v,qk l G y=some (some v)→y.map a.eval=some v:=by
   intro y v hy;cases y with
   |none=>simp[qk]at hy
   |some z=>
    simp only[qk]at hy;split at hy
    ·rename_i u hu;simp only[Option.some.injEq]at hy;subst hy;simp[H.ev hG hu]
    ·cases hy
  split at h
  ·rename_i s1 e1 el eh hu;cases h;refine Yr.run λw' _=>?_;have:=key s1 _ _ 0 (ln s1) e1 hu (GR _ el) (GR _ eh) (.inl ⟨rfl,rfl⟩) (.inl ⟨rfl,rfl⟩) (by omega) (by unfold ln;omega) (by omega) w';rw[this];simp[V.sub,ln]
  ·rename_i s1 k m e1 el eh hu;cases h;have ho:=oY H hG hk (eP _ rfl);exact Yr.run λw' _=>key s1 _ _ m (ln s1) e1 hu (opts _ _ el) (GR _ eh) (.inr ⟨_,rfl⟩) (.inl ⟨rfl,rfl⟩) ho.1 ho.2 (by omega) w'
  ·rename_i s1 k m e1 el eh hu;cases h;have ho:=oY H hG hk (eP _ rfl);exact Yr.run λw' _=>key s1 _ _ 0 m e1 hu (GR _ el) (opts _ _ eh) (.inl ⟨rfl,rfl⟩) (.inr ⟨_,rfl⟩) (by omega) ho.1 ho.2 w'
  ·rename_i s1 k m k' m' e1 el eh hu;cases h;have ho:=oY H hG hk (eP _ rfl);exact Yr.run λw' _=>key s1 _ _ m m' e1 hu (opts _ _ el) (opts _ _ eh) (.inr ⟨_,rfl⟩) (.inr ⟨_,rfl⟩) ho.1 ho.2.1 ho.2.2 w'
  ·rename_i b off k i len e e1 el eh hu;split at h
   ·rename_i z hz;cases h;have ho:=oY H hG hk (eP _ rfl);refine Yr.run λw' _=>?_;have uq:∀w,(sizeOf e).run P w=.ok (z+1) w:=λw=>ot hz;have h2:i≤(len:Int):=by omega
    have h3:¬len=i.toNat:=by omega
    simp[execOp,H.ev hG e1,Instr.sliceAt,run_underlying hu,Instr.sureAddr,opts _ _ el,GR _ eh,Instr.sliceBounds,Instr.sliceBound,asIntOf,ho.1,h2,uq,h3,Addr.add_zero']
   ·cases h
  ·rename_i b off k j len e e1 el eh hu;split at h
   ·rename_i z hz;cases h;have ho:=oY H hG hk (eP _ rfl);refine Yr.run λw' _=>?_;have uq:∀w,(sizeOf e).run P w=.ok (z+1) w:=λw=>ot hz;have h2:j≤(len:Int):=ho.2;simp[execOp,H.ev hG e1,Instr.sliceAt,run_underlying hu,Instr.sureAddr,GR _ el,opts _ _ eh,Instr.sliceBounds,Instr.sliceBound,asIntOf,ho.1,h2,uq,Addr.add_zero']
   ·cases h
  ·cases h
 ·
  split at h
  ·rename_i a1 m c k i e e1 e2 hu;split at h
   ·rename_i z hz;cases h;have ho:=oY H hG hk (eP _ rfl);refine Yr.run λw' _=>?_;have uq:∀w,(sizeOf e).run P w=.ok (z+1) w:=λw=>ot hz;have qm:=H.ev hG e1;have hoa:a1=some ⟨ab a1,ao a1,none⟩:=ho.1;rw[hoa]at qm;simp[execOp,qm,H.ev hG e2,Instr.indexAt,asIntOf,run_underlying hu,ho.2,uq,Addr.add_zero']
   ·cases h
  ·rename_i b off k i len e e1 e2 hu;split at h
   ·rename_i z hz;cases h;have ho:=oY H hG hk (eP _ rfl);refine Yr.run λw' _=>?_;have uq:∀w,(sizeOf e).run P w=.ok (z+1) w:=λw=>ot hz;simp[execOp,H.ev hG e1,H.ev hG e2,Instr.indexAt,asIntOf,run_underlying hu,Instr.sureAddr,ho,uq,Addr.add_zero']
   ·cases h
  ·cases h
 ·
  rename_i t x;split at h
  ·rename_i b off v SL e1;split at h
   ·rename_i fs cs hu;cases hc:decide ((P.info? t).map (·.size)=some cs.length)with
    |false=>rw[hc]at h;cases h
    |true=>
     rw[hc]at h;simp only[cond_true,Option.some.injEq]at h;subst h;have ho:=oY H hG hk (eP _ rfl);exact Yr.run λw' hw=>by simp[execOp,H.ev hG e1,ZW hu rfl (by simpa using hc) hw ho]
   ·rename_i cs hu;cases hc:decide ((P.info? t).map (·.size)=some cs.length)with
    |false=>rw[hc]at h;cases h
    |true=>
     rw[hc]at h;simp only[cond_true,Option.some.injEq]at h;subst h;have ho:=oY H hG hk (eP _ rfl);exact Yr.run λw' hw=>by simp[execOp,H.ev hG e1,ZW hu rfl (by simpa using hc) hw ho]
   ·cases h
   ·cases h
   ·rename_i d qn qo hu hn3 hn4;cases h;have ho:=oY H hG hk (eP _ rfl);refine Yr.run λw' hw=>?_;have hr:=a6j (P:=P) hu (by cases d<;>simp_all) hw ho;simp[execOp,H.ev hG e1,hr]
   ·cases h
  ·cases h
 ·
  split at h
  ·rename_i fs cs e1 e2;cases h;exact Yr.run λw' _=>by simp[execOp,DU H hG e1,DU H hG e2,Instr.makeFunc]
  ·cases h
 ·
  rename_i c;obtain⟨cal,args,uo⟩:=c;split at h
  ·rename_i xn;simp only at xn h;subst xn;split at h
   ·rename_i x t hx ht;obtain rfl:args=#[x]:=by cases args;simp_all
    obtain rfl:uo=#[t]:=by cases uo;simp_all
    split at h
    ·rename_i s1 e1 hu;cases h;refine Yr.run λw' _=>?_;have hs:(ByteArray.mk ⟨s1⟩).size=s1.length:=rfl;simp[execOp,resolve,invoke,H.ev hG e1,builtin,Builtin.len_,run_underlying hu,goInt,ln,hs]
    ·rename_i a1 m c1 d e1 hu;cases h;refine Yr.run λw' _=>?_;simp[execOp,resolve,invoke,H.ev hG e1,builtin,Builtin.len_,run_underlying hu,goInt]
    ·rename_i m d hu;cases h;refine Yr.run λw' _=>?_;simp[execOp,resolve,invoke,builtin,Builtin.len_,run_underlying hu,goInt]
    ·cases h
   ·cases h
  ·rename_i xn;simp only at xn h;subst xn;split at h
   ·rename_i vs e1;obtain⟨hv,_⟩:=xm h;exact Yr.run λw' _=>by simp only[execOp,resolve,DU H hG e1,Sem.run_bind,Sem.run_pure,Result.andThen_ok,invoke];exact ZV hv
   ·cases h
  ·rename_i xn;simp only at xn h;subst xn;split at h
   ·rename_i vs e1;obtain⟨hv,_⟩:=xm h;exact Yr.run λw' _=>by simp only[execOp,resolve,DU H hG e1,Sem.run_bind,Sem.run_pure,Result.andThen_ok,invoke];exact ZV hv
   ·cases h
  ·rename_i x xn;simp only at xn h;subst xn;split at h
   ·rename_i f first rP as v SL e1 e2
    cases h;have ho:=oY H hG hk (eP _ rfl);unfold callee at e1;split at e1
    ·rename_i f' fi ca e3;simp only[Option.some.injEq,Prod.mk.injEq]at e1;obtain⟨rfl,rfl,rfl⟩:=e1;refine .inr ⟨rfl,?_⟩;intro w' hw;unfold Oper.quietAt;rcases ho with ho|ho
     ·have hr:(execOp a.eval ⟨dst,.call ⟨.value x,args,uo⟩,ty,pos,after,guard⟩).run P w'=.ok (.enter f' ⟨fi++as++ca⟩) w':=by
       simp only[execOp,resolve,Deferred.ofValue,H.ev hG e3,DU H hG e2,Sem.run_bind,Sem.run_pure,Result.andThen_ok,invoke];have:=ho.call w';simpa using this
      rw[hr];exact⟨rfl,(ho.run w' hw).mono λe rO h=>⟨h.1,hw.trans (h.2.mono hw.size)⟩⟩
     ·have hr:(execOp a.eval ⟨dst,.call ⟨.value x,args,uo⟩,ty,pos,after,guard⟩).run P w'=.ok (.value v) w':=by
       simp only[execOp,resolve,Deferred.ofValue,H.ev hG e3,DU H hG e2,Sem.run_bind,Sem.run_pure,Result.andThen_ok,invoke];have:=ho w' hw;simpa using this
      rw[hr];exact⟨rfl,rfl⟩
    ·cases e1
   ·cases h
  ·cases h
 ·cases h
theorem a6p{P:Program}{n:Nat}{l:SF}{a:Act}{G:iB}{w:World}{op:Op}{os:List Value}{out:Out}{dst:Option Tmp}{ty:TypeId}{pos:String}{after:Array Edge}{guard:Option (Nat×Bool)}
  (H:aj D n l a)(hG:kY a G)(hk:zN l G G=true)(h:step1 P l G op os=some out)(eP:∀ob,out.ob=some ob→ob w):Yields P ⟨dst,op,ty,pos,after,guard⟩ a w out.v:=(a6o H hG hk h eP).ZZ
theorem a6q{P:Program}{n:Nat}{l:SF}{a:Act}{G:iB}{w:World}{c x y:Operand}{v:Value}{dst:Option Tmp}{ty:TypeId}{pos:String}{after:Array Edge}{guard:Option (Nat×Bool)}
  (H:aj D n l a)(hG:kY a G)(h:Ot l G c x y=some v):Yr P ⟨dst,.pick c x y,ty,pos,after,guard⟩ a w v:=by
 unfold Ot at h;split at h
 ·rename_i s;have slot:∀t,ev l G (.tmp s)=some (.bool t)→a.tmps[s]?=some (.bool t):=by
   intro t e1;simp only[V.ev]at e1;split at e1
   ·rename_i C u he;cases SM:uk C G with
    |false=>rw[SM]at e1;cases e1
    |true=>
     rw[SM]at e1;simp only[cond_true,Option.some.injEq]at e1;subst e1;exact(H.2.2 _ (ul he)).1 (K4 SM hG)
   ·cases e1
  have onT:∀{x v},ev l G (.tmp s)=some (.bool true)→ev l ((s,true)::G) x=some v→a.eval x=v:=λe1 e2=>
   H.ev (G:=(s,true)::G) (λp hp=>by rcases List.mem_cons.1 hp with rfl|hp;exact slot _ e1;exact hG p hp) e2
  have onF:∀{x v},ev l G (.tmp s)=some (.bool false)→ev l ((s,false)::G) x=some v→a.eval x=v:=λe1 e2=>
   H.ev (G:=(s,false)::G) (λp hp=>by rcases List.mem_cons.1 hp with rfl|hp;exact slot _ e1;exact hG p hp) e2
  split at h
  ·rename_i t p q e1 e2 e3;cases h;have ec:=H.ev hG e1;refine Yr.run λw' _=>?_;cases t with
   |true=>simp[execOp,ec,onT e1 e2,asBool]
   |false=>simp[execOp,ec,onF e1 e3,asBool]
  ·rename_i q e1 e3 _;cases h;have ec:=H.ev hG e1;exact Yr.run λw' _=>by simp[execOp,ec,onF e1 e3,asBool]
  ·rename_i q _ e1 e2 _;cases h;have ec:=H.ev hG e1;exact Yr.run λw' _=>by simp[execOp,ec,onT e1 e2,asBool]
  ·cases h
 ·cases h
theorem a6r{P:Program}{n:Nat}{l:SF}{a:Act}{G:iB}{w:World}{c x y:Operand}{v:Value}{dst:Option Tmp}{ty:TypeId}{pos:String}{after:Array Edge}{guard:Option (Nat×Bool)}
  (H:aj D n l a)(hG:kY a G)(h:Ot l G c x y=some v):Yields P ⟨dst,.pick c x y,ty,pos,after,guard⟩ a w v:=(a6q H hG h).ZZ
def SN(all:List Oper)(l:SF):Option (Nat×Bool)→Option iB
 |none=>some []
 |some (j,want)=>match all[j]? with
  |some o=>match o.dst with
   |some g=>match gw l g with
    |some (C,.bool _)=>some ((g,want)::C)
    |_=>none
   |none=>none
  |none=>none
def Bz(P:Program)(l:SF)(G:iB)(op:Op)(os:List Value):Option Out:=
 match op with
 | .pick c x y=>um (Ot l G c x y) os
 |_=>step1 P l G op os
def a6s:Option Ob→List Ob→List Ob
 |none,r=>r
 |some o,r=>o::r
def rQ(P:Program)(n:Nat)(all:List Oper):List Oper→Nat→List Value→SF→Option (SF×List Ob)
 |_,0,_,l=>some (l,[])
 |[],_+1,_,_=>none
 |o::rest,m+1,os,l=>
  match SN all l o.guard with
  |some G=>
   match zN l G G,Bz P l G o.op os with
   |true,some out=>
    match o.dst with
    |some d=>
     match Nat.blt d n&&G.all λp=>!(Nat.beq p.1 d)with
     |true=>
      match rQ P n all rest m out.os (oX l d G out.v)with
      |some (l',r)=>some (l',a6s out.ob r)
      |none=>none
     |false=>none
    |none=>none
   |_,_=>none
  |none=>none
def tm:List Ob→World→Prop
 |[],_=>True
 |o::r,w=>o w∧tm r w
theorem a00{n:Nat}{all:List Oper}{l:SF}{a:Act}(H:aj D n l a){g:Option (Nat×Bool)}{G:iB}(h:SN all l g=some G){dst:Option Tmp}{op:Op}{ty:TypeId}{pos:String}{after:Array Edge}:
  (Region.wanted ⟨dst,op,ty,pos,after,g⟩ (yielded all.toArray a.tmps)=true↔kY a G):=by
 unfold SN at h;split at h
 ·cases h;simp[Region.wanted,kY]
 ·rename_i j want;split at h
  ·rename_i o ho;split at h
   ·rename_i s hs;split at h
    ·rename_i C b he;cases h;have h1:=H.2.2 _ (ul he);have hy:yielded all.toArray a.tmps j=(match a.tmps[s]? with|some (.bool b)=>some b|_=>none):=by
      unfold yielded;rw[show((all.toArray[j]?).bind (·.dst))=some s from by simp[ho,hs]];rfl
     simp only[Region.wanted,hy];constructor
     ·intro hw;by_cases hC:kY a C
      ·have:=h1.1 hC;dsimp only at this;rw[this]at hw;simp only[beq_iff_eq,Option.some.injEq]at hw;subst hw;intro p hp;rcases List.mem_cons.1 hp with rfl|hp
       ·exact this
       ·exact hC p hp
      ·have:=h1.2 hC;dsimp only at this;rw[this]at hw;simp[undef]at hw
     ·intro hk;have:=hk _ List.mem_cons_self;dsimp only at this;rw[this];simp
    ·cases h
   ·cases h
  ·cases h
theorem SO{P:Program}{n:Nat}{l:SF}{a:Act}{G:iB}{w:World}{op:Op}{os:List Value}{out:Out}{dst:Option Tmp}{ty:TypeId}{pos:String}{after:Array Edge}{guard:Option (Nat×Bool)}
  (H:aj D n l a)(hG:kY a G)(hk:zN l G G=true)(h:Bz P l G op os=some out)(eP:∀ob,out.ob=some ob→ob w):Yields P ⟨dst,op,ty,pos,after,guard⟩ a w out.v:=by
 unfold Bz at h;split at h
 ·obtain⟨hv,_⟩:=xm h;exact a6r H hG hv
 ·exact a6p H hG hk h eP
theorem SP{P:Program}{n:Nat}{all:List Oper}{w:World}{Q:Act→Prop}:∀(m:Nat)(rest:List Oper)(os:List Value)(l l':SF)(fG:List Ob)(a:Act),
  rQ P n all rest m os l=some (l',fG)→tm fG w→aj D n l a→(∀a',aj D n l' a'→wpQuiet P all.toArray (λw'=>Below w.heap.size w w') Q (rest.drop m) a')→
  wpQuiet P all.toArray (λw'=>Below w.heap.size w w') Q rest a
 |0,rest,os,l,l',fG,a,h,_,H,hK=>by
  simp[rQ]at h;obtain⟨rfl,rfl⟩:=h;exact hK a H
 |m+1,[],os,l,l',fG,a,h,_,_,_=>by simp[rQ]at h
 |m+1,o::rest,os,l,l',fG,a,h,eP,H,hK=>by
  obtain⟨dst,op,ty,pos,after,guard⟩:=o;unfold rQ at h;split at h
  ·rename_i G hG;split at h
   ·rename_i out SQ kK;split at h
    ·rename_i d hd;split at h
     ·rename_i xp;simp only[Bool.and_eq_true]at xp;split at h
      ·rename_i l2 r hr;simp only[Option.some.injEq,Prod.mk.injEq]at h;obtain⟨rfl,rfl⟩:=h;obtain rfl:dst=some d:=hd;have DX:tm r w∧∀ob,out.ob=some ob→ob w:=by
        cases ho:out.ob with
        |none=>rw[ho]at eP;exact⟨eP,λob e=>by cases e⟩
        |some ob=>rw[ho]at eP;exact⟨eP.2,λob' e=>by cases e;exact eP.1⟩
       have hw:=a00 (dst:=some d) (op:=op) (ty:=ty) (pos:=pos) (after:=after) H hG;unfold wpQuiet;by_cases hc:kY a G
       ·rw[if_pos (hw.2 hc)];exact⟨out.v,SO H hc SQ kK DX.2,SP m rest _ _ _ _ _ hr DX.1 (H.put xp.1 xp.2 (λ_=>rfl) (λx=>absurd hc x)) hK⟩
       ·rw[if_neg (λx=>hc (hw.1 x))];exact SP m rest _ _ _ _ _ hr DX.1 (H.put xp.1 xp.2 (λx=>absurd x hc) (λ_=>rfl)) hK
      ·cases h
     ·cases h
    ·cases h
   ·cases h
  ·cases h
theorem a6t{P:Program}{n id:Nat}{all:List Oper}{Q:Exit→Act→World→Prop}{a:Act}{w:World}{l l':SF}{os:List Value}{fG:List Ob}(ks:List Nat){lk:SF}
  (H:aj D n l a)(hm:P.follows .mixedOrders=true)(hB:Region.lexB .any all.toArray=true)(he:rQ P n all all all.length os l=some (l',fG))(hk:aK l' ks=some lk)(eP:tm fG w)
  (hK:∀a' w',aj D n lk a'→Below w.heap.size w w'→Q .normal a' w'):(Code.region id all.toArray true).wp P Q a w:=by
 refine wp_region_quiet (C:=λw'=>Below w.heap.size w w') hm hB ⟨rfl,rfl,rfl,Nat.le_refl _,λ_ _=>rfl⟩ ?_;refine SP all.length all os l l' fG a he eP H ?_;intro a' H';simp only[List.drop_length];exact λw' hw=>hK a' w' (H'.aK hk) hw
theorem Ka{P:Program}{n:Nat}{all:List Oper}{Q:Exit→Act→World→Prop}:∀(m:Nat)(rest:List Oper)(os:List Value)(l l':SF)(fG:List Ob)(a:Act)(w0 w:World),
  Below w0.heap.size w0 w→
  rQ P n all rest m os l=some (l',fG)→tm fG w0→aj D n l a→(∀a' w',aj D n l' a'→Below w0.heap.size w0 w'→wpList P all.toArray Q (rest.drop m) a' w')→
  wpList P all.toArray Q rest a w
 |0,rest,os,l,l',fG,a,w0,w,hb,h,_,H,hK=>by
  simp[rQ]at h;obtain⟨rfl,rfl⟩:=h;exact hK a w H hb
 |m+1,[],os,l,l',fG,a,w0,w,hb,h,_,_,_=>by simp[rQ]at h
 |m+1,o::rest,os,l,l',fG,a,w0,w,hb,h,eP,H,hK=>by
  obtain⟨dst,op,ty,pos,after,guard⟩:=o;unfold rQ at h;split at h
  ·rename_i G hG;split at h
   ·rename_i out SQ kK;split at h
    ·rename_i d hd;split at h
     ·rename_i xp;simp only[Bool.and_eq_true]at xp;split at h
      ·rename_i l2 r hr;simp only[Option.some.injEq,Prod.mk.injEq]at h;obtain⟨rfl,rfl⟩:=h;obtain rfl:dst=some d:=hd;have DX:tm r w0∧∀ob,out.ob=some ob→ob w0:=by
        cases ho:out.ob with
        |none=>rw[ho]at eP;exact⟨eP,λob e=>by cases e⟩
        |some ob=>rw[ho]at eP;exact⟨eP.2,λob' e=>by cases e;exact eP.1⟩
       have hw:=a00 (dst:=some d) (op:=op) (ty:=ty) (pos:=pos) (after:=after) H hG;unfold wpList;by_cases hc:kY a G
       ·rw[if_pos (hw.2 hc)];left;have hy:(⟨some d,op,ty,pos,after,guard⟩:Oper).quiet P a (λrO=>Below w0.heap.size w0 rO) (λa'=>aj D n (oX l d G out.v) a'):=
         ⟨out.v,SO H hc SQ kK DX.2,H.put xp.1 xp.2 (λ_=>rfl) (λx=>absurd hc x)⟩
        exact Oper.wp_of_quiet (C:=λrO=>Below w0.heap.size w0 rO) hb (λa' w' SR H'=>Ka m rest _ _ _ _ a' w0 w' SR hr DX.1 H' hK) hy
       ·rw[if_neg (λx=>hc (hw.1 x))];exact Ka m rest _ _ _ _ _ w0 w hb hr DX.1 (H.put xp.1 xp.2 (λx=>absurd x hc) (λ_=>rfl)) hK
      ·cases h
     ·cases h
    ·cases h
   ·cases h
  ·cases h
theorem Below.rfl'(w:World):Below w.heap.size w w:=Below.refl _ _
theorem a6u{P:Program}{n id:Nat}{all:List Oper}{Q:Exit→Act→World→Prop}{a:Act}{w:World}{l l':SF}{os:List Value}{fG:List Ob}(ks:List Nat){lk:SF}
  (H:aj D n l a)(he:rQ P n all all all.length os l=some (l',fG))(hk:aK l' ks=some lk)(eP:tm fG w)
  (hK:∀a' w',aj D n lk a'→Below w.heap.size w w'→Q .normal a' w'):(Code.region id all.toArray false).wp P Q a w:=by
 refine wp_region_lit (Ka all.length all os l l' fG a w w (Below.rfl' w) he eP H ?_);intro a' w' H' hw;simp only[List.drop_length];exact hK a' w' (H'.aK hk) hw
def jG(P:Program)(n:Nat)(all:List Oper)(os:List Value)(l:SF)(ks:List Nat):Option (SF×List Ob):=
 match rQ P n all all all.length os l with
 |some (l',fG)=>match aK l' ks with
  |some lk=>some (lk,fG)
  |none=>none
 |none=>none
theorem a01{P:Program}{n:Nat}{all:List Oper}{os:List Value}{l:SF}{ks:List Nat}{lk:SF}{fG:List Ob}(h:jG P n all os l ks=some (lk,fG)):
  ∃l',rQ P n all all all.length os l=some (l',fG)∧aK l' ks=some lk:=by
 unfold jG at h;split at h
 ·rename_i l' a02 h1;split at h
  ·rename_i lk' h2;simp only[Option.some.injEq,Prod.mk.injEq]at h;obtain⟨rfl,rfl⟩:=h;exact⟨l',h1,h2⟩
  ·cases h
 ·cases h
abbrev eQ:=Act→World→Prop
def DY:List (Nat×eQ)→Nat→Option eQ
 |[],_=>none
 |e::r,i=>cond (Nat.beq e.1 i) (some e.2) (DY r i)
def Qs(N:eQ)(ES:List (Nat×eQ))(R:eQ):Exit→Act→World→Prop
 | .normal,a,w=>N a w
 | .exit i,a,w=>match DY ES i with
  |some E=>E a w
  |none=>False
 | .ret,a,w=>R a w
 |_,_,_=>False
section
variable {P:Program} {N R:eQ} {ES:List (Nat×eQ)} {a:Act} {w:World} {n:Nat} {l:SF}
theorem BA{x y:Code}(h:x.wp P (Qs (λa w=>y.wp P (Qs N ES R) a w) ES R) a w):(Code.seq x y).wp P (Qs N ES R) a w:=
 wp_seq (wp_mono h λe a w q=>by cases e<;>exact q)
theorem eR{x y:Code}(M:eQ)(h:x.wp P (Qs M ES R) a w)(h2:∀a w,M a w→y.wp P (Qs N ES R) a w):(Code.seq x y).wp P (Qs N ES R) a w:=
 BA (wp_mono h λe a w q=>by cases e<;>first|exact h2 _ _ q|exact q)
theorem a6v(h:N a w):Code.skip.wp P (Qs N ES R) a w:=wp_skip h
theorem a6w(h:R a w):Code.ret.wp P (Qs N ES R) a w:=wp_ret h
theorem a6x{i:Nat}{E:eQ}(hi:DY ES i=some E)(h:E a w):(Code.exit i).wp P (Qs N ES R) a w:=
 wp_exit (by
  have e:Qs N ES R (.exit i) a w=(match DY ES i with|some E=>E a w|none=>False):=rfl;rw[e,hi];exact h)
theorem a6y{i:Nat}{c:Code}(h:c.wp P (Qs N ((i,N)::ES) R) a w):(Code.block i c).wp P (Qs N ES R) a w:=
 wp_block (wp_mono h λe a w q=>by
  cases e with
  |exit j=>
   simp only[Exit.inBlock];by_cases hj:j=i
   ·subst hj;rw[if_pos rfl];have q':N a w:=by
     unfold Qs DY at q;simpa using q
    exact q'
   ·rw[if_neg hj];unfold Qs DY at q;have:Nat.beq i j=false:=by
     cases hb:Nat.beq i j
     ·rfl
     ·exact absurd (Nat.eq_of_beq_eq_true hb).symm hj
    simp only[this,cond_false]at q;exact q
  |_=>exact q)
theorem rR{c:Operand}{x y:Code}{t:Bool}(H:aj D n l a)(hc:ev l [] c=some (.bool t))(h1:t=true→x.wp P (Qs N ES R) a w)(h2:t=false→y.wp P (Qs N ES R) a w):
  (Code.cond c x y).wp P (Qs N ES R) a w:=
 wp_cond_split (H.ev (G:=[]) (λ_ h=>by cases h) hc) h1 h2
theorem SS{id:Nat}{all:List Oper}(os:List Value)(ks:List Nat)(lk:SF)(fG:List Ob)
  (H:aj D n l a)(he:jG P n all os l ks=some (lk,fG))(eP:tm fG w)
  (hK:∀a' w',aj D n lk a'→Below w.heap.size w w'→N a' w'):(Code.region id all.toArray false).wp P (Qs N ES R) a w:=
 let⟨_,h1,h2⟩:=a01 he
 a6u ks H h1 h2 eP hK
theorem a03{id:Nat}{all:List Oper}(os:List Value)(ks:List Nat)(lk:SF)(fG:List Ob)
  (H:aj D n l a)(hm:P.follows .mixedOrders=true)(hB:Region.lexB .any all.toArray=true)(he:jG P n all os l ks=some (lk,fG))(eP:tm fG w)
  (hK:∀a' w',aj D n lk a'→Below w.heap.size w w'→N a' w'):(Code.region id all.toArray true).wp P (Qs N ES R) a w:=
 let⟨_,h1,h2⟩:=a01 he
 a6t ks H hm hB h1 h2 eP hK
theorem GS{id:Nat}{all:List Oper}{y:Code}(os:List Value)(ks:List Nat)(lk:SF)(fG:List Ob)
  (H:aj D n l a)(he:jG P n all os l ks=some (lk,fG))(eP:tm fG w)
  (hK:∀a' w',aj D n lk a'→Below w.heap.size w w'→y.wp P (Qs N ES R) a' w'):(Code.seq (.region id all.toArray false) y).wp P (Qs N ES R) a w:=BA (SS os ks lk fG H he eP hK)
theorem a6z{id:Nat}{all:List Oper}{y:Code}(os:List Value)(ks:List Nat)(lk:SF)(fG:List Ob)
  (H:aj D n l a)(hm:P.follows .mixedOrders=true)(hB:Region.lexB .any all.toArray=true)(he:jG P n all os l ks=some (lk,fG))(eP:tm fG w)
  (hK:∀a' w',aj D n lk a'→Below w.heap.size w w'→y.wp P (Qs N ES R) a' w'):(Code.seq (.region id all.toArray true) y).wp P (Qs N ES R) a w:=BA (a03 os ks lk fG H hm hB he eP hK)
theorem gb{c:Code}(I:Nat→eQ)(h0:∃m,I m a w)
  (round:∀m a w,I m a w→c.wp P (Qs (λa' w'=>∃m',m'<m∧I m' a' w') ES R) a w):(Code.loop c).wp P (Qs N ES R) a w:=by
 intro b k cs;have key:∀m a w,I m a w→
   ∃e a' w',Qs N ES R e a' w'∧Arrives P (lone (b.at a (.code c::.inLoop c::k)) cs w) b k cs e a' w':=by
  intro m
  induction m using Nat.strongRecOn with
  |_ m ih=>
   intro a w hI;obtain⟨e,a₁,w₁,hq,yC⟩:=round m a w hI b (.inLoop c::k) cs;cases e with
   |normal=>
    obtain⟨m',kL,hI₁⟩:=hq;obtain⟨e₂,a₂,w₂,hq₂,a6A⟩:=ih m' kL a₁ w₁ hI₁;exact⟨e₂,a₂,w₂,hq₂,.of_steps (Steps.trans yC (.one step_inLoop)) a6A⟩
   |exit id=>exact⟨.exit id,a₁,w₁,hq,.pass (x:=.inLoop c) rfl (λ_ _=>.inl (by simp)) yC⟩
   |goto l=>exact⟨.goto l,a₁,w₁,hq,.pass (x:=.inLoop c) rfl (λ_ _=>.inl (by simp)) yC⟩
   |ret=>exact⟨.ret,a₁,w₁,hq,.pass (x:=.inLoop c) rfl (λ_ _=>.inl (by simp)) yC⟩
   |panic ch=>exact⟨.panic ch,a₁,w₁,hq,.pass (x:=.inLoop c) rfl (λ_ _=>.inl (by simp)) yC⟩
   |outgrown=>exact⟨.outgrown,a₁,w₁,hq,.pass (x:=.inLoop c) rfl (λ_ _=>.inl (by simp)) yC⟩
 obtain⟨m,hm⟩:=h0;obtain⟨e,a',w',hq,yC⟩:=key m a w hm;exact⟨e,a',w',hq,.of_steps (.one step_loop) yC⟩
end
def BB:List Value→Nat→SF
 |[],_=>[]
 |v::r,i=>(i,[],v)::BB r (i+1)
theorem a6B{vs:List Value}{i:Nat}{e:Nat×iB×Value}(h:e∈BB vs i):e.2.1=[]∧i≤e.1∧vs[e.1-i]?=some e.2.2:=by
 induction vs generalizing i with
 |nil=>simp[BB]at h
 |cons v r ih=>
  rcases List.mem_cons.1 h with rfl|h
  ·simp
  ·obtain⟨h1,h2,h3⟩:=ih h;refine⟨h1,by omega,?_⟩;rw[show e.1-i=(e.1-(i+1))+1 from by omega];simpa using h3
def Rt(fn:Func)(R:Ending→World→Prop):eQ:=λa w=>a.defers=[]∧∀P:Program,∃v,(results fn a.tmps).run P w=.ok v w∧R (.returned v) w
theorem aj.tmp{n:Nat}{l:SF}{a:Act}(H:aj D n l a){t:Nat}{v:Value}(h:gw l t=some ([],v)):a.tmps.getD t undef=v:=by
 have:=(H.2.2 _ (ul h)).1 (λp hp=>by cases hp);dsimp only at this;rw[Array.getD_eq_getD_getElem?,this];rfl
def Pure(v:Value)(w:World)(e:Ending)(w':World):Prop:=e=.returned v∧Below w.heap.size w w'
theorem a6C{P:Program}{f:FuncId}{args:Array Value}{v:Value}(hc:∀w,(callFunc f args).run P w=.ok (.enter f args) w)(h:∀w,Calls P f args w (Pure v w)):Bv P f args v:=
 ⟨hc,h⟩
theorem bT{α:Type}{c:Bool}{x y r:α}(hc:c=true)(h:cond c x y=r):x=r:=by subst hc;exact h
theorem bF{α:Type}{c:Bool}{x y r:α}(hc:c=false)(h:cond c x y=r):y=r:=by subst hc;exact h
def az{α:Type}(p:Prop)[Decidable p](k:Option α):Option α:=if p then k else none
theorem bY{α:Type}{p:Prop}[Decidable p]{k:Option α}{r:α}(h:az p k=some r):p∧k=some r:=by
 unfold az at h;split at h
 ·rename_i hp;exact⟨hp,h⟩
 ·cases h
theorem a8{α β:Type}{x:Option α}{f:α→Option β}{r:β}(h:x.bind f=some r):∃y,x=some y∧f y=some r:=by
 cases x with
 |none=>cases h
 |some y=>exact⟨y,rfl,h⟩
def lt{α β:Type}(e:α)(f:α→β):β:=f e
theorem bc{α β:Type}{e:α}{f:α→β}{r:β}(h:lt e f=r):∃x,x=e∧f x=r:=⟨e,rfl,h⟩
def de{α β:Type}(z:Sum α β)(k:β→Option α):Option α:=
 match z with
 | .inl r=>some r
 | .inr s=>k s
theorem dO{α β:Type}{s:β}{k:β→Option α}{x:Option α}(h:de (Sum.inr s) k=x):k s=x:=h
theorem cD{α:Type}{z:α}{p:Prop}(h:(none:Option α)=some z):p:=by cases h
theorem cP{α:Type}{x y:α}(h:some x=some y):x=y:=Option.some.inj h
structure Kp(X:List Nat)(w w':World):Prop where
 os:w'.os=w.os
 tape:w'.tape=w.tape
 output:w'.output=w.output
 size:w.heap.size≤w'.heap.size
 block:∀k,k<w.heap.size→k∉X→w'.heap[k]?=w.heap[k]?
theorem Kp.yD{w w':World}(h:Below w.heap.size w w')(X:List Nat):Kp X w w':=⟨h.os,h.tape,h.output,h.size,λk hk _=>h.block k hk⟩
theorem Kp.below{w w':World}(h:Kp [] w w'):Below w.heap.size w w':=⟨h.os,h.tape,h.output,h.size,λk hk=>h.block k hk (by simp)⟩
theorem Kp.refl(X:List Nat)(w:World):Kp X w w:=⟨rfl,rfl,rfl,Nat.le_refl _,λ_ _ _=>rfl⟩
theorem Kp.trans{X Y:List Nat}{w w1 w2:World}(h:Kp X w w1)(k:Kp Y w1 w2)(hY:∀y∈Y,y∈X∨w.heap.size≤y):Kp X w w2:=
 ⟨k.os.trans h.os,k.tape.trans h.tape,k.output.trans h.output,Nat.le_trans h.size k.size,λi hi hx=>
  (k.block i (Nat.lt_of_lt_of_le hi h.size) (λhy=>by
   rcases hY i hy with h1|h1
   ·exact hx h1
   ·omega)).trans (h.block i hi hx)⟩
theorem Kp.step{X:List Nat}{w w1 w2:World}(h:Kp X w w1)(k:Below w1.heap.size w1 w2):Kp X w w2:=h.trans (Kp.yD k []) (by simp)
structure jS(w:World)(b:Nat)(cs:List Value):Prop where
 lt:b<w.heap.size
 get:∃T,w.heap[b]?=some (.cells ⟨cs⟩ T (0,0))
theorem jS.kp{w w':World}{b:Nat}{cs:List Value}{X:List Nat}(h:jS w b cs)(k:Kp X w w')(hX:b∉X):jS w' b cs:=
 ⟨Nat.lt_of_lt_of_le h.lt k.size,by obtain⟨T,hT⟩:=h.get;exact⟨T,(k.block b h.lt hX).trans hT⟩⟩
theorem jS.below{w w':World}{b:Nat}{cs:List Value}(h:jS w b cs)(k:Below w.heap.size w w'):jS w' b cs:=h.kp (Kp.yD k []) (by simp)
theorem jS.cell{w:World}{b off:Nat}{cs:List Value}(h:jS w b cs):w.cell? ⟨b,off,none⟩=cs[off]?:=by
 obtain⟨T,hT⟩:=h.get;simp[World.cell?,hT]
theorem jS.c9{w:World}{b off:Nat}{cs:List Value}{v:Value}(h:jS w b cs)(hv:cs[off]?=some v):V.c9 ⟨b,off,none⟩ v w:=⟨by rw[h.cell];exact hv,h.lt⟩
theorem jS.bH{w:World}{b off:Nat}{cs:List Value}(h:jS w b cs):∀(vs:List Value)(j:Nat),(∀i (hi:i<vs.length),cs[off+(j+i)]?=some vs[i])→V.bH b off vs j w
 |[],_,_=>trivial
 |v::r,j,hv=>⟨h.c9 (by have:=hv 0 (by simp);rw[Nat.add_zero]at this;exact this),jS.bH h r (j+1) (λi hi=>by
   have:=hv (i+1) (by simpa using hi);simpa[Nat.add_assoc,Nat.add_comm 1 i]using this)⟩
def kZ:List Value→Nat→List Value→List Value
 |cs,_,[]=>cs
 |cs,off,v::r=>kZ (cs.set off v) (off+1) r
def qY:List Value→Bool
 |[]=>true
 |v::r=>v.oneCell'&&qY r
theorem SU{w:World}{b off:Nat}{v:Value}{cs:List Value}{T:TypeId}{fr:Nat×Nat}(h:w.heap[b]?=some (.cells ⟨cs⟩ T fr)):
  (w.setCell ⟨b,off,none⟩ v).heap[b]?=some (.cells ⟨cs.set off v⟩ T fr):=by
 simp[World.setCell,Array.getElem?_modify,h]
theorem Kc(w:World)(a:Addr)(v:Value):Kp [a.block] w (w.setCell a v):=
 ⟨rfl,rfl,rfl,by simp[World.setCell],λk _ hx=>Below.heap_setCell w a v k (by simpa using hx)⟩
theorem a04{P:Program}{b off:Nat}:∀(vs:List Value)(j:Nat)(w:World)(cs:List Value),qY vs=true→jS w b cs→off+j+vs.length≤cs.length→
  ∃w',(storeCells ⟨b,off,none⟩ vs j).run P w=.ok () w'∧Kp [b] w w'∧jS w' b (kZ cs (off+j) vs)
 |[],j,w,cs,_,hb,_=>⟨w,by simp[storeCells],Kp.refl _ _,by simpa[kZ]using hb⟩
 |v::r,j,w,cs,ho,hb,hl=>by
  simp only[qY,Bool.and_eq_true]at ho;obtain⟨T,hT⟩:=hb.get;have hj:off+j<cs.length:=by simp at hl;omega
  have hc:w.cell? ⟨b,off+j,none⟩=some cs[off+j]:=by rw[hb.cell];exact List.getElem?_eq_getElem hj
  have hf:w.frozen? ⟨b,off+j,none⟩=false:=by simp[World.frozen?,hT]
  have kK:(store ⟨b,off+j,none⟩ v).run P w=.ok () (w.setCell ⟨b,off+j,none⟩ v):=by
   rw[run_store P w _ v .plain ho.1,hc];simp[hf]
  have GU:jS (w.setCell ⟨b,off+j,none⟩ v) b (cs.set (off+j) v):=
   ⟨by have:=(Kc w ⟨b,off+j,none⟩ v).size;exact Nat.lt_of_lt_of_le hb.lt this,T,SU hT⟩
  obtain⟨w',h1,h2,h3⟩:=a04 (P:=P) (off:=off) r (j+1) _ _ ho.2 GU (by simp only[List.length_cons]at hl;simp only[List.length_set];omega);refine⟨w',?_,(Kc w ⟨b,off+j,none⟩ v).trans h2 (by simp),h3⟩;simp only[storeCells,Sem.run_bind,Addr.add_zero',kK,Result.andThen_ok];exact h1
section
variable {P:Program} {Q:Exit→Act→World→Prop} {a:Act} {w:World} {n:Nat} {l:SF} {all:List Oper}
theorem a05{id:Nat}{Q:Exit→Act→World→Prop}(h:wpList P all.toArray Q (all.drop 0) a w):(Code.region id all.toArray false).wp P Q a w:=wp_region_lit (by simpa using h)
theorem a6D{N R:eQ}{ES:List (Nat×eQ)}{i:Nat}(hi:Nat.ble all.length i=true)(h:N a w):wpList P all.toArray (Qs N ES R) (all.drop i) a w:=by
 have:all.length≤i:=by simpa using hi
 rw[List.drop_eq_nil_of_le this];exact h
def GV(P:Program)(n:Nat)(all:List Oper)(i j:Nat)(os:List Value)(l:SF)(ks:List Nat):Option (SF×List Ob):=
 match rQ P n all (all.drop i) (j-i) os l with
 |some (l',fG)=>match aK l' ks with
  |some lk=>some (lk,fG)
  |none=>none
 |none=>none
theorem SV(i j:Nat)(os:List Value)(ks:List Nat)(lk:SF)(fG:List Ob)(H:aj D n l a)(dP:Nat.ble i j=true)(he:GV P n all i j os l ks=some (lk,fG))(eP:tm fG w)
  (hK:∀a' w',aj D n lk a'→Below w.heap.size w w'→wpList P all.toArray Q (all.drop j) a' w'):wpList P all.toArray Q (all.drop i) a w:=by
 unfold GV at he;split at he
 ·rename_i l' a02 h1;split at he
  ·rename_i lk' h2;simp only[Option.some.injEq,Prod.mk.injEq]at he;obtain⟨rfl,rfl⟩:=he;refine Ka (j-i) (all.drop i) os l l' _ a w w (Below.rfl' w) h1 eP H ?_;intro a' w' H' hb;have SW:i≤j:=by simpa using dP
   rw[List.drop_drop,Nat.add_sub_cancel' SW];exact hK a' w' (H'.aK h2) hb
  ·cases he
 ·cases he
theorem a06{i:Nat}{o:Oper}(ho:all[i]?=some o)(hg:o.guard=none)
  (h:∀K:Act→World→Prop,(∀a w,wpList P all.toArray Q (all.drop (i+1)) a w→K a w)→o.wp P a w K Q):wpList P all.toArray Q (all.drop i) a w:=by
 have hl:i<all.length:=by
  rcases Nat.lt_or_ge i all.length with h|h
  ·exact h
  ·rw[List.getElem?_eq_none h]at ho;cases ho
 have he:all[i]=o:=by
  rw[List.getElem?_eq_getElem hl]at ho;exact Option.some.inj ho
 rw[List.drop_eq_getElem_cons hl,he];exact wpList_plain hg h
theorem fw(a:Act):kY a []:=λ_ h=>by cases h
theorem aj.set{H:aj D n l a}{d:Nat}{v:Value}(hd:Nat.blt d n=true):aj D n (oX l d [] v) (a.put (some d) v):=H.put hd rfl (λ_=>rfl) (λh=>absurd (fw a) h)
theorem DZ(w:World)(cs:List Value)(T:TypeId):Kp [] w (w.alloc (.cells ⟨cs⟩ T))∧jS (w.alloc (.cells ⟨cs⟩ T)) w.heap.size cs:=
 ⟨Kp.yD ((Below.refl _ _).alloc (Nat.le_refl _) _) [],by show w.heap.size<(w.heap.push _).size;simp,T,by show(w.heap.push _)[w.heap.size]?=_;simp⟩
end
structure Sl{α:Type}(enc:α→List Value)(z:Nat)(w:World)(a:Option Addr)(l:List α):Prop where
 ok:0<l.length→eg a
 lt:0<l.length→ab a<w.heap.size
 get:∀i (h:i<l.length) j v,(enc l[i])[j]?=some v→w.cell? ⟨ab a,ao a+i*z+j,none⟩=some v
theorem Sl.kp{α:Type}{enc:α→List Value}{z:Nat}{w w':World}{a:Option Addr}{l:List α}{X:List Nat}(h:Sl enc z w a l)(k:Kp X w w')(hX:ab a∉X):Sl enc z w' a l:=
 ⟨h.ok,λhl=>Nat.lt_of_lt_of_le (h.lt hl) k.size,λi hi j v hv=>by
  rw[World.cell?_of_block (w:=w) (k.block (ab a) (h.lt (by omega)) hX)];exact h.get i hi j v hv⟩
theorem Sl.below{α:Type}{enc:α→List Value}{z:Nat}{w w':World}{a:Option Addr}{l:List α}(h:Sl enc z w a l)(k:Below w.heap.size w w'):Sl enc z w' a l:=h.kp (Kp.yD k []) (by simp)
theorem Sl.nil{α:Type}(enc:α→List Value)(z:Nat)(w:World)(a:Option Addr):Sl enc z w a ([]:List α):=⟨λh=>by simp at h,λh=>by simp at h,λi h=>by simp at h⟩
def gi{α:Type}[Inhabited α](l:List α)(i:Int):α:=l.getD i.toNat default
theorem Sl.c9{α:Type}[Inhabited α]{enc:α→List Value}{z:Nat}{w:World}{a:Option Addr}{l:List α}(h:Sl enc z w a l){i:Int}(h0:0≤i)(h1:i<ln l)(j:Nat){v:Value}
  (hv:(enc (gi l i))[j]?=some v):V.c9 ⟨ab a,ao a+i.toNat*z+j,none⟩ v w:=by
 have hl:i.toNat<l.length:=by unfold ln at h1;omega
 have hg:gi l i=l[i.toNat]:=by simp[gi,List.getD_eq_getElem?_getD,List.getElem?_eq_getElem hl]
 rw[hg]at hv;exact⟨h.get _ hl j v hv,h.lt (by omega)⟩
theorem Sl.iK{α:Type}{enc:α→List Value}{z:Nat}{w:World}{a:Option Addr}{l:List α}(h:Sl enc z w a l){i:Int}(h0:0≤i∧i<ln l):eg a∧0≤i∧i<ln l:=
 ⟨h.ok (by unfold ln at h0;omega),h0⟩
theorem Sl.bH{α:Type}[Inhabited α]{enc:α→List Value}{z:Nat}{w:World}{a:Option Addr}{l:List α}(h:Sl enc z w a l){i:Int}(h0:0≤i)(h1:i<ln l):∀(vs:List Value)(j:Nat),
  (∀q (hq:q<vs.length),(enc (gi l i))[j+q]?=some vs[q])→V.bH (ab a) (ao a+i.toNat*z) vs j w
 |[],_,_=>trivial
 |v::r,j,hv=>⟨h.c9 h0 h1 j (by have:=hv 0 (by simp);rw[Nat.add_zero]at this;exact this),Sl.bH h h0 h1 r (j+1) (λq hq=>by
   have:=hv (q+1) (by simpa using hq);simpa[Nat.add_assoc,Nat.add_comm 1 q]using this)⟩
def Kd(k:IntKind)(x:Int):List Value:=[.int k x]
theorem a07{α:Type}{enc:α→List Value}{z:Nat}(hz:∀x,(enc x).length=z):∀(l:List α)(i:Nat)(h:i<l.length)(j:Nat)(v:Value),(enc l[i])[j]?=some v→(l.map enc).flatten[i*z+j]?=some v
 |x::r,0,_,j,v,hv=>by
  have hj:j<(enc x).length:=by
   rcases Nat.lt_or_ge j (enc x).length with h|h
   ·exact h
   ·rw[List.getElem?_eq_none (by simpa using h)]at hv;cases hv
  simp only[List.getElem_cons_zero]at hv;simp only[List.map_cons,List.flatten_cons,Nat.zero_mul,Nat.zero_add];rw[List.getElem?_append_left hj];exact hv
 |x::r,i+1,h,j,v,hv=>by
  have:=a07 hz r i (by simpa using h) j v (by simpa using hv);simp only[List.map_cons,List.flatten_cons];rw[List.getElem?_append_right (by rw[hz];rw[Nat.add_mul,Nat.one_mul];omega),hz,show(i+1)*z+j-z=i*z+j from by rw[Nat.add_mul,Nat.one_mul];omega];exact this
theorem Sl.a6E{α:Type}{enc:α→List Value}{z:Nat}(hz:∀x,(enc x).length=z){w:World}{b:Nat}{l:List α}{cs:List Value}{T:TypeId}{fr:Nat×Nat}(h:w.heap[b]?=some (.cells ⟨cs⟩ T fr))
  (hc:∀q,q<l.length*z→cs[q]?=(l.map enc).flatten[q]?):Sl enc z w (some ⟨b,0,none⟩) l:=by
 refine⟨λ_=>rfl,λ_=>?_,λi hi j v hv=>?_⟩
 ·show b<w.heap.size;rcases Nat.lt_or_ge b w.heap.size with hb|hb
  ·exact hb
  ·rw[Array.getElem?_eq_none hb]at h;cases h
 ·have hf:=a07 hz l i hi j v hv;have hj:j<z:=by
   rw[←hz l[i]];rcases Nat.lt_or_ge j (enc l[i]).length with h|h
   ·exact h
   ·rw[List.getElem?_eq_none h]at hv;cases hv
  have hq:i*z+j<l.length*z:=by
   have:(i+1)*z≤l.length*z:=Nat.mul_le_mul_right z hi;rw[Nat.add_mul,Nat.one_mul]at this;omega
  show w.cell? ⟨b,0+i*z+j,none⟩=some v;simp only[World.cell?,h,Option.isSome_none,Bool.false_eq_true,if_false,Nat.zero_add];simp only[List.getElem?_toArray];rw[hc _ hq];exact hf
theorem a6F{P:Program}{w:World}{t E:TypeId}{z len:Nat}{zv:Value}{parts:Array (Nat×Value)}{cs:List Value}(hu:P.underlying t=some (.slice E))(hz:(P.info? E).map (·.size)=some z)
  (qZ:(P.info? E).map (·.zero)=some (some zv))(hlen:Nat.ble (len*z) 16777216=true)(p7:Nat.blt 0 (len*z)=true)
  (hf:Instr.fill (λi=>some (i*z,z)) ((Array.range (len*z)).map (zv.cells[· %zv.cells.size]!)) parts.toList=some ⟨cs⟩):
  (Instr.buildSlice t len parts).run P w=.ok (.slice (some ⟨w.heap.size,0,none⟩) len len) (w.alloc (.cells ⟨cs⟩ E)):=by
 have hs:(sizeOf E).run P w=.ok z w:=ot hz;have yA:(zeroValue E).run P w=.ok zv w:=by
  cases hi:P.info? E with
  |none=>simp[hi]at qZ
  |some inf=>
   simp[hi]at qZ;simp[zeroValue,typeInfo,hi,qZ]
 have h1:¬len*z>2^24:=by
  have:len*z≤16777216:=by simpa using hlen
  omega
 have h2:¬len*z=0:=by
  have:0<len*z:=by simpa[Nat.blt,Nat.lt_iff_add_one_le]using p7
  omega
 simp only[Instr.buildSlice,Sem.run_bind,run_underlying hu,Result.andThen_ok,hs,h1,if_false,h2,yA,Sem.run_pure,hf];simp[newRow]
section
variable {P:Program} {Q:Exit→Act→World→Prop} {a:Act} {w:World} {n:Nat} {l:SF} {all:List Oper}
end
structure alD(P:Program)(f:FuncId)(args:Array Value)(w:World)(v:Value)(R:World→Prop):Prop where
 call:∀w,(callFunc f args).run P w=.ok (.enter f args) w
 run:Calls P f args w λe w'=>e=.returned v∧R w'
section
variable {P:Program} {Q:Exit→Act→World→Prop} {a:Act} {w:World} {n:Nat} {l:SF} {all:List Oper}
end
def iL(l:List Int):List UInt8:=l.map λn=>UInt8.ofNat n.toNat
def bO(s:List UInt8):List Int:=s.map λc=>(c.toNat:Int)
structure Rw(k:IntKind)(w:World)(b:Nat)(l:List Int):Prop where
 lt:b<w.heap.size
 get:∃T sp fr,w.heap[b]?=some (.cells ⟨l.map (Value.int k)++sp⟩ T fr)∧(fr.2=0∨l.length≤fr.1)
theorem Rw.kp{k:IntKind}{w w':World}{b:Nat}{l:List Int}{X:List Nat}(h:Rw k w b l)(kp:Kp X w w')(hX:b∉X):Rw k w' b l:=
 ⟨Nat.lt_of_lt_of_le h.lt kp.size,by obtain⟨T,sp,fr,hT,hf⟩:=h.get;exact⟨T,sp,fr,(kp.block b h.lt hX).trans hT,hf⟩⟩
theorem Rw.below{k:IntKind}{w w':World}{b:Nat}{l:List Int}(h:Rw k w b l)(kb:Below w.heap.size w w'):Rw k w' b l:=h.kp (Kp.yD kb []) (by simp)
theorem Rw.cell{k:IntKind}{w:World}{b i:Nat}{l:List Int}(h:Rw k w b l)(hi:i<l.length):w.cell? ⟨b,i,none⟩=some (.int k l[i]):=by
 obtain⟨T,sp,fr,hT,_⟩:=h.get;simp only[World.cell?,hT,Option.isSome_none,Bool.false_eq_true,if_false,List.getElem?_toArray];rw[List.getElem?_append_left (by simpa using hi)];simp[List.getElem?_eq_getElem hi]
theorem Rw.c9{k:IntKind}{w:World}{b:Nat}{l:List Int}(h:Rw k w b l){i:Int}(h0:0≤i)(h1:i<ln l):V.c9 ⟨b,0+i.toNat*1,none⟩ (.int k (gi l i)) w:=by
 have hl:i.toNat<l.length:=by unfold ln at h1;omega
 have hg:gi l i=l[i.toNat]:=by simp[gi,List.getD_eq_getElem?_getD,List.getElem?_eq_getElem hl]
 rw[hg,Nat.mul_one,Nat.zero_add];exact⟨h.cell hl,h.lt⟩
theorem Rw.sl{k:IntKind}{w:World}{b off:Nat}{l:List Int}(h:Rw k w b l):Sl (Kd k) 1 w (some ⟨b,off,none⟩) (l.drop off):=
 ⟨λ_=>rfl,λ_=>h.lt,λi hi j v hv=>by
  have hj:j=0:=by
   rcases Nat.eq_zero_or_pos j with h|h
   ·exact h
   ·rw[List.getElem?_eq_none (by simp[Kd];omega)]at hv;cases hv
  subst hj;simp only[Kd,List.getElem_drop,List.getElem?_cons_zero,Option.some.injEq]at hv;subst hv;have lI:off+i<l.length:=by simp at hi;omega
  simp only[ab,ao,Nat.mul_one,Nat.add_zero];exact h.cell lI⟩
theorem Rw.Oz{k:IntKind}{w:World}{b:Nat}{l:List Int}(h:Rw k w b l):Sl (Kd k) 1 w (some ⟨b,0,none⟩) l:=by simpa using h.sl (off:=0)
def yE(l:List Int)(i v:Int):List Int:=l.set i.toNat v
theorem a6G(l:List Int)(i v:Int):ln (yE l i v)=ln l:=by simp[ln,yE]
theorem a6H{P:Program}{w:World}{k:IntKind}{b:Nat}{l:List Int}{t:TypeId}{i v:Int}(h:Rw k w b l)(hz:(P.info? t).map (·.size)=some 1)(h0:0≤i)(h1:i<ln l):
  ∃w',(Instr.storeAt t (.pointer (some ⟨b,0+i.toNat*1,none⟩)) (.int k v)).run P w=.ok () w'∧Kp [b] w w'∧Rw k w' b (yE l i v):=by
 have hl:i.toNat<l.length:=by unfold ln at h1;omega
 obtain⟨T,sp,fr,hT,hf⟩:=h.get;have hc:=h.cell hl;have hfz:w.frozen? ⟨b,i.toNat,none⟩=false:=by
  simp only[World.frozen?,hT];rcases hf with hf|hf
  ·simp[hf]
  ·have:¬fr.1≤i.toNat:=by omega
   simp[this]
 have kK:(store ⟨b,i.toNat,none⟩ (.int k v)).run P w=.ok () (w.setCell ⟨b,i.toNat,none⟩ (.int k v)):=by
  rw[run_store P w _ _ .plain rfl,hc];simp[hfz]
 have lH:(sizeOf t).run P w=.ok 1 w:=ot hz;refine⟨w.setCell ⟨b,i.toNat,none⟩ (.int k v),?_,Kc w ⟨b,i.toNat,none⟩ (.int k v),?_,T,sp,fr,?_,?_⟩
 ·rw[Nat.mul_one,Nat.zero_add];have ha:Addr.add ⟨b,i.toNat,none⟩ 0=⟨b,i.toNat,none⟩:=rfl;simp[Instr.storeAt,Instr.sureAddr,storeVar,lH,Value.cells,storeCells,ha,kK]
 ·exact Nat.lt_of_lt_of_le h.lt (Kc w ⟨b,i.toNat,none⟩ (.int k v)).size
 ·rw[SU hT];rw[List.set_append_left _ _ (by simpa using hl)];simp[yE,List.map_set]
 ·simpa[yE]using hf
section
variable {P:Program} {Q:Exit→Act→World→Prop} {a:Act} {w:World} {n:Nat} {l:SF} {all:List Oper}
end
theorem a08{P:Program}{w:World}{s t E:TypeId}{a:Option Addr}{c:Nat}{l:List Int}(hs:P.underlying s=some (.slice E))(ht:P.underlying t=some .string)(hE:P.underlying E=some (.int .u8))(h:Sl (Kd .u8) 1 w a l):
  ∀w',Below w.heap.size w w'→(convert s t (.slice a l.length c)).run P w'=.ok (.string ⟨⟨iL l⟩⟩) w':=by
 intro w' hb;have h':=h.below hb;simp only[convert,Sem.run_bind,run_underlying hs,run_underlying ht,run_underlying hE,Result.andThen_ok];cases a with
 |none=>
  have:l=[]:=by
   cases l with
   |nil=>rfl
   |cons x r=>have:=h.ok (by simp);simp[eg]at this
  subst this;rfl
 |some a0=>
  cases l with
  |nil=>
   simp[Conv.bytesToString,loadCells,loadCellsFrom,iL];rfl
  |cons x r=>
   have jn:some a0=some ⟨ab (some a0),ao (some a0),none⟩:=h.ok (by simp);have hl:=run_loadCells (P:=P) (w:=w') (b:=ab (some a0)) (off:=ao (some a0)) ((x::r).map (Value.int .u8)) 0 #[] (λi hi=>by
    have lI:i<(x::r).length:=by simpa using hi
    have:=h'.get i lI 0 (.int .u8 (x::r)[i]) rfl;simp only[Nat.mul_one,Nat.add_zero]at this;rw[Nat.zero_add,this,List.getElem_map])
   have he:a0=⟨ab (some a0),ao (some a0),none⟩:=by simpa using jn
   have Ke:=run_bytesToString (P:=P) w' a0 (x::r).length c (x::r) (by
    rw[he];unfold loadCells;have e2:((x::r).map (Value.int .u8)).length=(x::r).length:=by simp
    rw[e2]at hl;rw[←he]at hl⊢;rw[hl];simp)
   rw[Ke,foldl_push_bytes];have e3:ByteArray.empty.data++((x::r).map λn=>UInt8.ofNat n.toNat).toArray=⟨iL (x::r)⟩:=by
    apply Array.ext';simp[iL,ByteArray.empty,ByteArray.emptyWithCapacity];rfl
   rw[e3]
theorem OA{w:World}{b off:Nat}:∀(vs:List Value)(j:Nat),(∀i (hi:i<vs.length),V.c9 ⟨b,off+(j+i),none⟩ vs[i] w)→V.bH b off vs j w
 |[],_,_=>trivial
 |v::r,j,hv=>⟨by have:=hv 0 (by simp);exact this,OA r (j+1) (λi hi=>by
   have:=hv (i+1) (by simpa using hi);simpa[Nat.add_assoc,Nat.add_comm 1 i]using this)⟩
theorem jS.eW{w:World}{b off:Nat}{cs vs:List Value}(h:jS w b cs)(hv:(cs.drop off).take vs.length=vs):V.bH b off vs 0 w:=by
 refine OA vs 0 λi hi=>h.c9 ?_;have h1:((cs.drop off).take vs.length)[i]?=some vs[i]:=by rw[hv];exact List.getElem?_eq_getElem hi
 rw[List.getElem?_take_of_lt hi,List.getElem?_drop]at h1;rw[Nat.zero_add];exact h1
theorem Sl.dp{α:Type}[Inhabited α]{enc:α→List Value}{z:Nat}{w:World}{a:Option Addr}{l:List α}(h:Sl enc z w a l){i:Int}(h0:0≤i∧i<ln l){vs:List Value}(hv:enc (gi l i)=vs):
  V.bH (ab a) (ao a+i.toNat*z) vs 0 w:=by
 subst hv;refine OA _ 0 λq hq=>?_;have:=h.c9 h0.1 h0.2 (0+q) (v:=(enc (gi l i))[q]) (by rw[Nat.zero_add];exact List.getElem?_eq_getElem hq);exact this
section
variable {P:Program} {Q:Exit→Act→World→Prop} {a:Act} {w:World} {n:Nat} {l:SF} {all:List Oper}
end
theorem jS.row{k:IntKind}{w:World}{b:Nat}(l:List Int)(h:jS w b (l.map (Value.int k))):Rw k w b l:=
 ⟨h.lt,by obtain⟨T,hT⟩:=h.get;exact⟨T,[],(0,0),by simpa using hT,.inl rfl⟩⟩
theorem OB{P:Program}{w:World}{s t E:TypeId}{b c m:Nat}{q:List Int}(hs:P.underlying s=some (.slice E))(ht:P.underlying t=some .string)(hE:P.underlying E=some (.int .u8))(h:Rw .u8 w b q)(e:ln q=(m:Int)):
  ∀w',Below w.heap.size w w'→(convert s t (.slice (some ⟨b,0,none⟩) m c)).run P w'=.ok (.string ⟨⟨iL q⟩⟩) w':=by
 obtain rfl:q.length=m:=by unfold ln at e;omega
 exact a08 hs ht hE h.Oz
end
section
variable {D:List Deferred}
def gI:Option Addr→List Nat
 |none=>[]
 |some a=>[a.block]
structure Ow{α:Type}(e:TypeId)(enc:α→List Value)(z:Nat)(w:World)(a:Option Addr)(c:Nat)(l:List α):Prop where
 row:w.ownsRow 0 e z (.slice a l.length c) l.length (l.map enc).flatten
 lt:∀b∈gI a,b<w.heap.size
 ln:l.length≤4611686018427387904
theorem Ow.kp{α:Type}{e:TypeId}{enc:α→List Value}{z c:Nat}{w w':World}{a:Option Addr}{l:List α}{X:List Nat}(h:Ow e enc z w a c l)(k:Kp X w w')(hX:∀b∈gI a,b∉X):Ow e enc z w' a c l:=by
 refine⟨⟨h.row.1,?_⟩,λb hb=>Nat.lt_of_lt_of_le (h.lt b hb) k.size,h.ln⟩;rcases h.row.2 with h0|⟨g,cap,r6,hv,h1,h2,h3⟩
 ·exact .inl h0
 ·refine .inr ⟨g,cap,r6,hv,h1,?_,h3⟩;simp only[Value.slice.injEq]at hv;obtain⟨rfl,_⟩:=hv;exact(k.block g (h.lt g (by simp[gI])) (hX g (by simp[gI]))).trans h2
theorem Ow.below{α:Type}{e:TypeId}{enc:α→List Value}{z c:Nat}{w w':World}{a:Option Addr}{l:List α}(h:Ow e enc z w a c l)(k:Below w.heap.size w w'):Ow e enc z w' a c l:=h.kp (Kp.yD k []) (by simp)
theorem Ow.nil{α:Type}(e:TypeId)(enc:α→List Value)(z:Nat)(w:World):Ow e enc z w none 0 ([]:List α):=
 ⟨⟨by simp,.inl ⟨rfl,rfl⟩⟩,by simp[gI],by simp⟩
theorem Ow.sl{α:Type}{e:TypeId}{enc:α→List Value}{z c:Nat}(hz:∀x,(enc x).length=z){w:World}{a:Option Addr}{l:List α}(h:Ow e enc z w a c l):Sl enc z w a l:=by
 rcases h.row.2 with⟨h0,h1⟩|⟨g,cap,r6,hv,h1,h2,h3,h4,h5,h6⟩
 ·obtain rfl:=List.eq_nil_of_length_eq_zero h1;exact Sl.nil _ _ _ _
 ·simp only[Value.slice.injEq]at hv;obtain⟨rfl,_,rfl⟩:=hv;refine Sl.a6E hz (cs:=r6.toList) (T:=e) (fr:=(0,0)) (by simpa using h2) λq hq=>?_;rw[←h6,List.getElem?_take,if_pos hq]
theorem zQ{α:Type}{enc:α→List Value}{z:Nat}(hz:∀x,(enc x).length=z)(l:List α):(l.map enc).flatten.length=l.length*z:=by
 induction l with
 |nil=>simp
 |cons x r ih=>simp only[List.map_cons,List.flatten_cons,List.length_append,hz,ih,List.length_cons,Nat.add_mul,Nat.one_mul];omega
theorem a09{α:Type}{enc:α→List Value}{z:Nat}(hz:∀x,(enc x).length=z):∀(l:List α)(q:Nat)(v:Value),(l.map enc).flatten[q]?=some v→∃i,∃h:i<l.length,∃j,q=i*z+j∧(enc l[i])[j]?=some v
 |[],q,v,h=>by simp at h
 |x::r,q,v,h=>by
  simp only[List.map_cons,List.flatten_cons]at h;by_cases hq:q<z
  ·rw[List.getElem?_append_left (by rw[hz];exact hq)]at h;exact⟨0,by simp,q,by omega,by simpa using h⟩
  ·rw[List.getElem?_append_right (by rw[hz];omega),hz]at h;obtain⟨i,hi,j,e1,e2⟩:=a09 hz r _ v h;exact⟨i+1,by simpa using hi,j,by rw[Nat.add_mul,Nat.one_mul];omega,by simpa using e2⟩
theorem a0a:∀{l:List Value},qY l=true→∀u∈l,u.oneCell'=true
 |[],_,u,h=>by simp at h
 |v::r,ho,u,h=>by
  simp only[qY,Bool.and_eq_true]at ho;rcases List.mem_cons.1 h with rfl|h
  ·exact ho.1
  ·exact a0a ho.2 u h
theorem Ow.a0b{α:Type}{e:TypeId}{enc:α→List Value}{z:Nat}(hz:∀x,(enc x).length=z){w:World}{b:Nat}{l:List α}(hl:l.length≤4611686018427387904)(h:w.heap[b]?=some (.cells ⟨(l.map enc).flatten⟩ e (0,0))):Ow e enc z w (some ⟨b,0,none⟩) l.length l:=by
 have hb:b<w.heap.size:=by
  rcases Nat.lt_or_ge b w.heap.size with hb|hb
  ·exact hb
  ·rw[Array.getElem?_eq_none hb]at h;cases h
 refine⟨⟨zQ hz l,.inr ⟨b,l.length,_,rfl,Nat.zero_le _,h,Nat.le_refl _,by unfold maxLen;omega,by simp[zQ hz],?_⟩⟩,by simp[gI,hb],hl⟩;rw[←zQ hz l];exact List.take_length
theorem a6I{P:Program}{α:Type}{w:World}{t ty e:TypeId}{enc:α→List Value}{z bytes:Nat}{zv:Value}(GW:∀x,(enc x).length=z)(SX:∀x,qY (enc x)=true)
  (hu:P.underlying t=some (.slice e))(hi:(P.info? e).map (λi=>(i.size,i.bytes,i.zero))=some (z,bytes,some zv))(qp:zv.cells.size=z)(hz:Nat.blt 0 z=true)
  {a1 a2:Option Addr}{n2 c1 c2:Nat}{l1 l2:List α}(how:Ow e enc z w a1 c1 l1)(zU:Sl enc z w a2 l2)(qo:l2.length=n2)(hb:Nat.ble bytes 1024=true)(hl:(l1.length:Int)+l2.length≤137438953472):
  ∃ar cr w',(Builtin.append_ #[t,t] ty #[.slice a1 l1.length c1,.slice a2 n2 c2]).run P w=.ok (.slice ar (l1++l2).length cr) w'∧Kp (gI a1) w w'∧(ar=a1∨gI ar=[w.heap.size])∧Ow e enc z w' ar cr (l1++l2):=by
 subst qo;have hb:bytes≤1024:=by simpa using hb
 have BC:0<z:=by simpa[Nat.blt,Nat.lt_iff_add_one_le]using hz
 cases a2 with
 |none=>
  have h0:l2=[]:=by
   cases l2 with
   |nil=>rfl
   |cons x r=>exact absurd (zU.ok (by simp)) (by simp[eg])
  subst h0;refine⟨a1,c1,w,?_,Kp.refl _ _,.inl rfl,by simpa using how⟩;cases n7:P.info? e with
  |none=>simp[n7]at hi
  |some inf=>
   simp[n7]at hi;obtain⟨h2,h3,h4⟩:=hi;have hle:l1.length≤c1:=by
    rcases how.row.2 with⟨h0,h1⟩|⟨g,cap,r6,hv,_,_,h3,_⟩
    ·omega
    ·simp only[Value.slice.injEq]at hv;obtain⟨_,_,rfl⟩:=hv;exact h3
   cases a1<;>simp[Builtin.append_,run_underlying hu,sizeOf,typeInfo,n7,Builtin.lenOf,Builtin.firstCells,hle,storeCells]
 |some ad=>
  cases n7:P.info? e with
  |none=>simp[n7]at hi
  |some inf=>
   simp[n7]at hi;obtain⟨h2,h3,h4⟩:=hi;have a6J:∀j u,(l2.map enc).flatten[j]?=some u→w.cell? (ad.add j)=some u:=by
    intro j u hj;obtain⟨i,hi,q,rfl,hq⟩:=a09 GW l2 j u hj;have:=zU.get i hi q u hq;have ho:=zU.ok (by omega);unfold eg at ho;simp only[Option.some.injEq]at ho;rw[ho,Addr.add_zero',←Nat.add_assoc];exact this
   have Kf:(l1.length+l2.length)*bytes≤140737488355328:=by
    have:(l1.length+l2.length)*bytes≤137438953472*1024:=Nat.mul_le_mul (by omega) hb;omega
   obtain⟨v',w',hr,a0c,hg,_,E0⟩:=run_append_own_at (P:=P) w 0 t ty e inf zv z bytes hu n7 h4 h2 h3 qp BC (.slice a1 l1.length c1) l1.length _ how.row ad l2.length c2
    (l2.map enc).flatten (zQ GW l2) a6J (by
     intro u hu;obtain⟨ys,hys,huy⟩:=List.mem_flatten.1 hu;obtain⟨x,_,rfl⟩:=List.mem_map.1 hys;exact a0a (SX x) u huy) (by unfold maxLen;omega) Kf (Nat.zero_le _)
   have E1:Kp (gI a1) w w':=⟨hg.os,hg.tape,hg.output,hg.size,λk hk hx=>hg.block k hk (by
    cases a1 with
    |none=>simp[Value.ownBlock]
    |some x=>simp[gI]at hx;simpa[Value.ownBlock]using hx)⟩
   have hlen:(l1++l2).length=l1.length+l2.length:=by simp
   have zW:((l1++l2).map enc).flatten=(l1.map enc).flatten++(l2.map enc).flatten:=by simp
   have fin:∀ar cr,v'=.slice ar (l1.length+l2.length) cr→(∀b∈gI ar,b<w'.heap.size)→(ar=a1∨gI ar=[w.heap.size])→
     ∃ar cr w',(Builtin.append_ #[t,t] ty #[.slice a1 l1.length c1,.slice (some ad) l2.length c2]).run P w=.ok (.slice ar (l1++l2).length cr) w'∧Kp (gI a1) w w'∧(ar=a1∨gI ar=[w.heap.size])∧Ow e enc z w' ar cr (l1++l2):=by
    intro ar cr hv kL lJ;subst hv;refine⟨ar,cr,w',by rw[hlen];exact hr,E1,lJ,⟨?_,kL,by omega⟩⟩;rw[hlen,zW];exact a0c
   rcases a0c.2 with⟨h0,h1⟩|⟨g,cap,r6,hv,_,hgw,h3',_⟩
   ·refine fin none 0 (by rw[h0,h1]) (by simp[gI]) ?_;left;rcases E0 with h|h
    ·rw[h0]at h;cases a1 with
     |none=>rfl
     |some x=>simp[Value.ownBlock]at h
    ·rw[h0]at h;simp[Value.ownBlock]at h
   ·have Kg:g<w'.heap.size:=by
     rcases Nat.lt_or_ge g w'.heap.size with hb|hb
     ·exact hb
     ·rw[Array.getElem?_eq_none hb]at hgw;cases hgw
    refine fin (some ⟨g,0,none⟩) cap hv (by simp[gI,Kg]) ?_;rw[hv]at E0;rcases E0 with h|h
    ·left;cases a1 with
     |none=>simp[Value.ownBlock]at h
     |some x=>
      simp[Value.ownBlock]at h;rcases how.row.2 with⟨h0,_⟩|⟨g',_,_,SY,_⟩
      ·simp at h0
      ·simp only[Value.slice.injEq,Option.some.injEq]at SY;obtain⟨rfl,_⟩:=SY;simp at h;subst h;rfl
    ·right;simp[Value.ownBlock]at h;simp[gI,h]
section
variable {P:Program} {Q:Exit→Act→World→Prop} {a:Act} {w:World} {n:Nat} {l:SF} {all:List Oper}
end
def qq(L:List (List Nat))(G:List Nat):List (List Nat):=L++G.map λb=>[b]
def Dj(A B:List Nat):Prop:=∀y∈A,y∉B
theorem Dj.symm{A B:List Nat}(h:Dj A B):Dj B A:=λy hb ha=>h y ha hb
structure ND(B:Nat)(L:List (List Nat))(G:List Nat)(w:World):Prop where
 nd:(qq L G).Pairwise Dj
 lt:∀A∈qq L G,∀y∈A,y<w.heap.size
 lo:∀A∈L,∀y∈A,B≤y
 size:B≤w.heap.size
theorem Kh{L:List (List Nat)}{i y:Nat}(h:y∈L.getD i []):L.getD i []∈L:=by
 rw[List.getD_eq_getElem?_getD]at h⊢;cases hg:L[i]? with
 |none=>simp[hg]at h
 |some l=>simp only[Option.getD_some];exact List.mem_of_getElem? hg
theorem T0:∀{L:List (List Nat)},L.Pairwise Dj→∀(i j:Nat),i≠j→Dj (L.getD i []) (L.getD j [])
 |[],_,i,j,_,y,h=>by simp at h
 |l::r,hn,i,j,dP,y,h=>by
  rw[List.pairwise_cons]at hn
  match i,j with
  |0,0=>exact absurd rfl dP
  |0,j+1=>
   simp only[List.getD_cons_zero,List.getD_cons_succ]at h⊢;exact λhy=>hn.1 _ (Kh hy) y h hy
  |i+1,0=>
   simp only[List.getD_cons_zero,List.getD_cons_succ]at h⊢;exact λhy=>hn.1 _ (Kh h) y hy h
  |i+1,j+1=>
   simp only[List.getD_cons_succ]at h⊢;exact T0 hn.2 i j (by omega) y h
theorem ND.dj{B:Nat}{L:List (List Nat)}{G:List Nat}{w:World}(h:ND B L G w)(i j:Nat)(dP:i≠j):Dj ((qq L G).getD i []) ((qq L G).getD j []):=T0 h.nd i j dP
theorem ND.mono{B:Nat}{L:List (List Nat)}{G:List Nat}{w w':World}(h:ND B L G w)(hs:w.heap.size≤w'.heap.size):ND B L G w':=
 ⟨h.nd,λA hA y hy=>Nat.lt_of_lt_of_le (h.lt A hA y hy) hs,h.lo,Nat.le_trans h.size hs⟩
theorem ND.a6K{B:Nat}{L:List (List Nat)}{G:List Nat}{w w':World}(h:ND B L G w)(hs:w.heap.size≤w'.heap.size)(F:List Nat)(h1:∀y∈F,w.heap.size≤y)(h2:∀y∈F,y<w'.heap.size):ND B (F::L) G w':=by
 refine⟨?_,?_,?_,Nat.le_trans h.size hs⟩
 ·show(F::qq L G).Pairwise Dj;rw[List.pairwise_cons];refine⟨λA hA y hy E3=>?_,h.nd⟩;have:=h1 y hy;have:=h.lt A hA y E3;omega
 ·show∀A∈F::qq L G,_;intro A hA y hy;rcases List.mem_cons.1 hA with rfl|hA
  ·exact h2 y hy
  ·exact Nat.lt_of_lt_of_le (h.lt A hA y hy) hs
 ·intro A hA y hy;rcases List.mem_cons.1 hA with rfl|hA
  ·exact Nat.le_trans h.size (h1 y hy)
  ·exact h.lo A hA y hy
def GX(L:List (List Nat))(gs:List (List Nat)):List (List Nat):=gs.map λg=>(g.map λi=>L.getD i []).flatten
theorem OC{L:List (List Nat)}{g:List Nat}{y:Nat}(h:y∈(g.map λi=>L.getD i []).flatten):∃i∈g,y∈L.getD i []:=by
 obtain⟨A,hA,hy⟩:=List.mem_flatten.1 h;obtain⟨i,hi,rfl⟩:=List.mem_map.1 hA;exact⟨i,hi,hy⟩
theorem ND.GX{B:Nat}{L:List (List Nat)}{G:List Nat}{w:World}(h:ND B L G w)(gs:List (List Nat))(hg:gs.flatten.Nodup):ND B (V.GX L gs) G w:=by
 have vM:∀g∈gs,∀y∈(g.map λi=>L.getD i []).flatten,∃A∈L,y∈A:=λg _ y hy=>by
  obtain⟨i,_,hi⟩:=OC hy;exact⟨_,Kh hi,hi⟩
 refine⟨?_,?_,?_,h.size⟩
 ·unfold qq;rw[List.pairwise_append];have hold:=h.nd;unfold qq at hold;rw[List.pairwise_append]at hold;refine⟨?_,hold.2.1,?_⟩
  ·unfold V.GX;rw[List.pairwise_map];clear vM
   induction gs with
   |nil=>exact List.Pairwise.nil
   |cons g r ih=>
    rw[List.flatten_cons,List.nodup_append]at hg;rw[List.pairwise_cons];refine⟨λg' yF y hy OD=>?_,ih hg.2.1⟩;obtain⟨i,hi,OE⟩:=OC hy;obtain⟨j,hj,hyj⟩:=OC OD;have hQ:i≠j:=λe=>hg.2.2 i hi j (List.mem_flatten.2 ⟨g',yF,hj⟩) e;exact T0 hold.1 i j hQ y OE hyj
  ·intro A hA C hC y hy Ki;obtain⟨g,yF,rfl⟩:=List.mem_map.1 hA;obtain⟨i,_,OE⟩:=OC hy;exact hold.2.2 _ (Kh OE) C hC y OE Ki
 ·intro A hA y hy;rcases List.mem_append.1 hA with hA|hA
  ·obtain⟨g,yF,rfl⟩:=List.mem_map.1 hA;obtain⟨A,hA,BD⟩:=vM g yF y hy;exact h.lt A (List.mem_append_left _ hA) y BD
  ·exact h.lt A (List.mem_append_right _ hA) y hy
 ·intro A hA y hy;obtain⟨g,yF,rfl⟩:=List.mem_map.1 hA;obtain⟨A,hA,BD⟩:=vM g yF y hy;exact h.lo A hA y BD
theorem ND.move{B:Nat}{G:List Nat}{w w':World}:∀{L:List (List Nat)}(i:Nat)(F:List Nat),ND B L G w→w.heap.size≤w'.heap.size→(∀y∈F,y∈L.getD i []∨w.heap.size≤y)→(∀y∈F,y<w'.heap.size)→ND B (L.set i F) G w'
 |[],i,F,h,hs,h1,h2=>by simpa using h.mono hs
 |l::r,0,F,h,hs,h1,h2=>by
  have hn:(l::qq r G).Pairwise Dj:=h.nd;rw[List.pairwise_cons]at hn;simp only[List.getD_cons_zero]at h1;refine⟨?_,?_,?_,Nat.le_trans h.size hs⟩
  ·show(F::qq r G).Pairwise Dj;rw[List.pairwise_cons];refine⟨λA hA y hy BD=>?_,hn.2⟩;rcases h1 y hy with h3|h3
   ·exact hn.1 A hA y h3 BD
   ·have:=h.lt A (List.mem_cons_of_mem _ hA) y BD;omega
  ·show∀A∈F::qq r G,_;intro A hA y hy;rcases List.mem_cons.1 hA with rfl|hA
   ·exact h2 y hy
   ·exact Nat.lt_of_lt_of_le (h.lt A (List.mem_cons_of_mem _ hA) y hy) hs
  ·intro A hA y hy;rcases List.mem_cons.1 hA with rfl|hA
   ·rcases h1 y hy with h3|h3
    ·exact h.lo l List.mem_cons_self y h3
    ·exact Nat.le_trans h.size h3
   ·exact h.lo A (List.mem_cons_of_mem _ hA) y hy
 |l::r,i+1,F,h,hs,h1,h2=>by
  have hn:(l::qq r G).Pairwise Dj:=h.nd;rw[List.pairwise_cons]at hn;have hr:ND B r G w:=⟨hn.2,λA hA=>h.lt A (List.mem_cons_of_mem _ hA),λA hA=>h.lo A (List.mem_cons_of_mem _ hA),h.size⟩;simp only[List.getD_cons_succ]at h1;have hm:=ND.move i F hr hs h1 h2;have hold:∀A∈qq (r.set i F) G,∀y∈A,(∃C∈qq r G,y∈C)∨w.heap.size≤y:=by
   intro A hA y hy;rcases List.mem_append.1 hA with hA|hA
   ·rcases List.mem_or_eq_of_mem_set hA with hA|rfl
    ·exact .inl ⟨A,List.mem_append_left _ hA,hy⟩
    ·rcases h1 y hy with h3|h3
     ·exact .inl ⟨_,List.mem_append_left _ (Kh h3),h3⟩
     ·exact .inr h3
   ·exact .inl ⟨A,List.mem_append_right _ hA,hy⟩
  refine⟨?_,?_,?_,Nat.le_trans h.size hs⟩
  ·show(l::qq (r.set i F) G).Pairwise Dj;rw[List.pairwise_cons];refine⟨λA hA y hy BD=>?_,hm.nd⟩;rcases hold A hA y BD with⟨C,hC,Ki⟩|h3
   ·exact hn.1 C hC y hy Ki
   ·have:=h.lt l List.mem_cons_self y hy;omega
  ·show∀A∈l::qq (r.set i F) G,_;intro A hA y hy;rcases List.mem_cons.1 hA with rfl|hA
   ·exact Nat.lt_of_lt_of_le (h.lt A List.mem_cons_self y hy) hs
   ·exact hm.lt A hA y hy
  ·intro A hA y hy;rcases List.mem_cons.1 hA with rfl|hA
   ·exact h.lo A List.mem_cons_self y hy
   ·exact hm.lo A hA y hy
theorem ND.start{G:List Nat}{w:World}(hd:G.Nodup)(hl:∀b∈G,b<w.heap.size):ND w.heap.size [] G w:=by
 refine⟨?_,?_,by simp,Nat.le_refl _⟩
 ·show(G.map λb=>[b]).Pairwise Dj;rw[List.pairwise_map];exact List.Pairwise.imp (λ{a b} h y hy E3=>by simp at hy E3;exact h (hy.symm.trans E3)) hd
 ·intro A hA y hy;obtain⟨b,hb,rfl⟩:=List.mem_map.1 hA;simp at hy;subst hy;exact hl _ hb
structure eJ(P:Program)(f:FuncId)(args:Array Value)(w:World)(R:Value→World→Prop):Prop where
 call:∀w,(callFunc f args).run P w=.ok (.enter f args) w
 run:Calls P f args w λe w'=>∃v,e=.returned v∧R v w'
section
variable {P:Program} {Q:Exit→Act→World→Prop} {a:Act} {w:World} {n:Nat} {l:SF} {all:List Oper}
end
theorem ND.join{B B':Nat}{L Lc:List (List Nat)}{G Gc:List Nat}{w w':World}(h:ND B L G w)(hs:w.heap.size≤w'.heap.size)(hB:w.heap.size≤B')(hc:ND B' Lc Gc w'):ND B (Lc++L) G w':=by
 have Kj:=hc.nd;unfold qq at Kj;rw[List.pairwise_append]at Kj;refine⟨?_,?_,?_,Nat.le_trans h.size hs⟩
 ·show((Lc++L)++_).Pairwise Dj;rw[List.append_assoc,List.pairwise_append];refine⟨Kj.1,h.nd,λA hA C hC y hy Ki=>?_⟩;have:=hc.lo A hA y hy;have:=h.lt C hC y Ki;omega
 ·show∀A∈(Lc++L)++_,_;rw[List.append_assoc];intro A hA y hy;rcases List.mem_append.1 hA with hA|hA
  ·exact hc.lt A (List.mem_append_left _ hA) y hy
  ·exact Nat.lt_of_lt_of_le (h.lt A hA y hy) hs
 ·intro A hA y hy;rcases List.mem_append.1 hA with hA|hA
  ·have:=hc.lo A hA y hy;have:=h.size;omega
  ·exact h.lo A hA y hy
theorem ND.nil{B:Nat}{L:List (List Nat)}{G:List Nat}{w:World}(h:ND B L G w):ND B ([]::L) G w:=h.a6K (Nat.le_refl _) [] (by simp) (by simp)
theorem ND.drop{B:Nat}{L L':List (List Nat)}{G:List Nat}{w:World}(h:ND B L G w)(hs:L'.Sublist L):ND B L' G w:=
 ⟨h.nd.sublist (hs.append_right _),λA hA=>h.lt A ((hs.append_right _).subset hA),λA hA=>h.lo A (hs.subset hA),h.size⟩
def pick:List (List Nat)→List Bool→List (List Nat)
 |l::r,true::b=>l::pick r b
 |_::r,false::b=>pick r b
 |_,_=>[]
theorem T3:∀(L:List (List Nat))(b:List Bool),(pick L b).Sublist L
 |l::r,true::b=>(T3 r b).cons_cons l
 |l::r,false::b=>(T3 r b).cons l
 |[],_=>by simp[pick]
 |_::_,[]=>by simp[pick]
theorem ND.pick{B:Nat}{L:List (List Nat)}{G:List Nat}{w:World}(h:ND B L G w)(b:List Bool):ND B (V.pick L b) G w:=h.drop (T3 L b)
theorem Ow.mem{α:Type}{e:TypeId}{enc:α→List Value}{z c:Nat}{w:World}{a:Option Addr}{l:List α}(h:Ow e enc z w a c l)(hl:0<l.length):ab a∈gI a:=by
 cases a with
 |some x=>simp[gI,ab]
 |none=>
  rcases h.row.2 with⟨_,h1⟩|⟨g,cap,r6,hv,_⟩
  ·omega
  ·simp at hv
theorem jS.ltl{w:World}{b:Nat}{cs:List Value}(h:jS w b cs):∀y∈[b],y<w.heap.size:=by simpa using h.lt
theorem ND.aV{B:Nat}{L:List (List Nat)}{G:List Nat}{w:World}(h:ND B L G w)(ks:List Nat)(hk:ks.Nodup):ND B (ks.map λi=>L.getD i []) G w:=by
 have e:V.GX L (ks.map λi=>[i])=ks.map λi=>L.getD i []:=by
  unfold V.GX;rw[List.map_map];exact List.map_congr_left λi _=>by simp
 have e2:(ks.map λi=>[i]).flatten=ks:=by
  clear hk e
  induction ks with
  |nil=>rfl
  |cons k r ih=>simp only[List.map_cons,List.flatten_cons,List.singleton_append,ih]
 have:=h.GX (ks.map λi=>[i]) (by rw[e2];exact hk);rw[e]at this;exact this
end
section
variable {D:List Deferred}
def bg(P:Program)(o:Oper)(a:Act)(w:World)(K:Value→World→Prop):Prop:=
 ∀(Q:Exit→Act→World→Prop)(N:Act→World→Prop),(∀v w',K v w'→N (a.put o.dst v) w')→o.wp P a w N Q
theorem bg.mono{P:Program}{o:Oper}{a:Act}{w:World}{K K':Value→World→Prop}(h:bg P o a w K)(hk:∀v w',K v w'→K' v w'):bg P o a w K':=
 λQ N hN=>h Q N λv w' q=>hN v w' (hk v w' q)
theorem bg.a6L{P:Program}{o:Oper}{a:Act}{w:World}{v:Value}(h:Yields P o a w v):bg P o a w λu w'=>u=v∧Below w.heap.size w w':=λQ N hN=>by
 have h1:=h w (Below.refl _ _);unfold Oper.quietAt at h1;unfold Oper.wp;generalize(execOp a.eval o).run P w=r at*;cases r with
 |ok n w'=>
  cases n<;>simp only[Oper.quietUpon]at h1<;>simp only[Oper.upon]
  case value u=>
   obtain⟨e1,e2⟩:=h1;rw[e1,e2];exact hN _ _ ⟨rfl,Below.refl _ _⟩
  case skip=>
   obtain⟨e1,e2⟩:=h1;rw[e1];exact hN _ _ ⟨e2.symm,Below.refl _ _⟩
  case enter f args=>
   obtain⟨e1,hc⟩:=h1;rw[e1];exact hc.mono λe rO ⟨he,a6M⟩=>by subst he;exact hN _ _ ⟨rfl,a6M⟩
 |halt x w'=>simp only[Oper.quietUpon]at h1
theorem aj.add{n:Nat}{l:SF}{a:Act}(H:aj D n l a){d:Nat}{v:Value}(h:a.tmps[d]?=some v):aj D n ((d,[],v)::l) a:=
 ⟨H.1,H.2.1,λe he=>by
  rcases List.mem_cons.1 he with rfl|he
  ·exact⟨λ_=>h,λx=>absurd (fw a) x⟩
  ·exact H.2.2 e he⟩
def dst(all:List Oper)(i:Nat):Nat:=((all[i]?).bind (·.dst)).getD 0
def reach(all:List Oper):Nat→Nat→Nat→Bool
 |0,_,_=>false
 |m+1,i,j=>match all[i]? with
  |some o=>o.after.toList.any λe=>Region.binds .any e&&(Nat.beq e.on j||reach all m e.on j)
  |none=>false
theorem T4{all:List Oper}{listed:Array Bool}(yG:∀(i:Nat)(o:Oper),listed[i]?=some true→all[i]?=some o→∀e∈o.after,Region.binds .any e=true→listed[e.on]?=some true):
  ∀(m i j:Nat)(o:Oper),all[i]?=some o→(∀e∈o.after,Region.binds .any e=true→listed[e.on]?=some true)→reach all m i j=true→listed[j]?=some true
 |0,_,_,_,_,_,h=>by simp[reach]at h
 |m+1,i,j,o,ho,ha,h=>by
  unfold reach at h;rw[ho]at h;obtain⟨e,he,h2⟩:=List.any_eq_true.1 h;rw[Bool.and_eq_true,Bool.or_eq_true]at h2;have he2:e∈o.after:=by simpa using he
  have hl:=ha e he2 h2.1;rcases h2.2 with h3|h3
  ·rw[←Nat.eq_of_beq_eq_true h3];exact hl
  ·cases hq:all[e.on]? with
   |none=>
    cases m with
    |zero=>simp[reach]at h3
    |succ m=>unfold reach at h3;rw[hq]at h3;simp at h3
   |some o2=>exact T4 yG m e.on j o2 hq (yG e.on o2 hl hq) h3
def yH(all:List Oper):Bool:=
 (List.range all.length).all λi=>match all[i]? with
  |some o=>o.after.toList.all λe=>!Region.binds .any e||Nat.blt e.on i
  |none=>false
structure alE(n:Nat)(base:SF)(all:List Oper)(alF:Nat→List Nat)(XA:List Nat)(Psi:Nat→(Nat→Value)→(Nat→List Nat)→World→Prop)(w0:World)(listed:Array Bool)(a:Act)(w:World)
  (vs:Nat→Value)(fs:Nat→List Nat):Prop where
 size:listed.size=all.length
 fr:aj [] n base a
 below:Kp XA w0 w
 did:∀i,listed[i]?=some true→a.tmps[dst all i]?=some (vs i)∧Psi i vs fs w∧(∀y∈fs i,w0.heap.size≤y∧y<w.heap.size)
 cl:∀(i:Nat)(o:Oper),listed[i]?=some true→all[i]?=some o→∀e∈o.after,Region.binds .any e=true→listed[e.on]?=some true
 dj:∀i j,listed[i]?=some true→listed[j]?=some true→i≠j→Dj (fs i) (fs j)
theorem bg.pr{P:Program}{o:Oper}{a:Act}{w w':World}{v:Value}{K:Value→World→Prop}(hr:(execOp a.eval o).run P w=.ok (.value v) w')(hk:K v w'):bg P o a w K:=λQ N hN=>by
 unfold Oper.wp;rw[hr];exact hN _ _ hk
section
variable {P:Program} {a:Act} {w:World} {n:Nat} {l:SF}
theorem pu{o:Oper}(os:List Value)(v:Value)(ob:Option Ob)(SL:List Value)(H:aj D n l a)(_:o.guard=none)(h:Bz P l [] o.op os=some ⟨v,SL,ob⟩)(eP:∀q,ob=some q→q w):bg P o a w λu w'=>u=v∧Kp [] w w':=by
 obtain⟨dst,op,ty,pos,after,guard⟩:=o;have hk:zN l [] []=true:=rfl;exact(bg.a6L (SO H (fw a) hk h eP)).mono λu w' h=>⟨h.1,Kp.yD h.2 []⟩
theorem a6N{α:Type}{enc:α→List Value}{d:Nat}{t E:TypeId}{len z:Nat}{zv:Value}{parts:Array (Nat×Operand)}{ty:TypeId}{pos:String}{after:Array Edge}(GW:∀x,(enc x).length=z)(cs:List Value)(xs:List α)
  (vs:List Value)(H:aj D n l a)(he:pq l [] (parts.toList.map (·.2))=some vs)
  (hu:P.underlying t=some (.slice E))(hz:(P.info? E).map (·.size)=some z)(qZ:(P.info? E).map (·.zero)=some (some zv))(hlen:Nat.ble (len*z) 16777216=true)(p7:Nat.blt 0 (len*z)=true)
  (hf:Instr.fill (λi=>some (i*z,z)) ((Array.range (len*z)).map (zv.cells[· %zv.cells.size]!)) ((parts.toList.map (·.1)).zip vs)=some ⟨cs⟩)(Kk:(xs.map enc).flatten=cs)(pT:xs.length=len):
  bg P ⟨some d,.buildSlice t len parts,ty,pos,after,none⟩ a w λv w'=>∃a1,v=.slice a1 len len∧Kp [] w w'∧gI a1=[w.heap.size]∧Ow E enc z w' a1 len xs:=by
 have hp:(parts.map λp=>(p.1,a.eval p.2)).toList=(parts.toList.map (·.1)).zip vs:=by
  rw[←Ou H (fw a) he,←SJ];cases parts;simp
 have hr:=a6F (P:=P) (w:=w) (parts:=parts.map λp=>(p.1,a.eval p.2)) (cs:=cs) hu hz qZ hlen p7 (by rw[hp];exact hf);have hN:=DZ w cs E;have BC:0<z:=by
  rcases Nat.eq_zero_or_pos z with h|h
  ·subst h;simp at p7
  ·exact h
 have hle:len*z≤16777216:=by simpa using hlen
 have hln:xs.length≤4611686018427387904:=by
  rw[pT];have:len*1≤len*z:=Nat.mul_le_mul_left _ BC;omega
 refine bg.pr (v:=.slice (some ⟨w.heap.size,0,none⟩) len len) (w':=w.alloc (.cells ⟨cs⟩ E)) ?_ ⟨_,rfl,hN.1,by simp[gI],?_⟩
 ·simp only[execOp];rw[show(parts.map λx=>match x with|(i,x)=>(i,a.eval x))=parts.map λp=>(p.1,a.eval p.2)from rfl];simp[hr]
 ·have:=Ow.a0b (e:=E) GW hln (w:=w.alloc (.cells ⟨cs⟩ E)) (b:=w.heap.size) (by rw[Kk];show(w.heap.push _)[w.heap.size]?=_;simp);rw[pT]at this;exact this
theorem a6O{α:Type}{d:Nat}{s x:Operand}{t ty e:TypeId}{pos:String}{after:Array Edge}{enc:α→List Value}{z:Nat}{zv:Value}{a1 a2:Option Addr}{n1 n2 c1 c2:Nat}{l1 l2:List α}(GW:∀x,(enc x).length=z)(SX:∀x,qY (enc x)=true)
  (q:List α)(hq:l1++l2=q)(H:aj D n l a)(hs:ev l [] s=some (.slice a1 n1 c1))(hx:ev l [] x=some (.slice a2 n2 c2))
  (qn:l1.length=n1)(qo:l2.length=n2)(hu:P.underlying t=some (.slice e))(hi:(P.info? e).map (λi=>(i.size,Nat.ble i.bytes 1024,i.zero))=some (z,true,some zv))(qp:zv.cells.size=z)(hz:Nat.blt 0 z=true)
  (how:Ow e enc z w a1 c1 l1)(zU:Sl enc z w a2 l2)(hl:V.ln l1+V.ln l2≤137438953472):
  bg P ⟨some d,.call ⟨.builtin .append,#[s,x],#[t,t]⟩,ty,pos,after,none⟩ a w λv w'=>∃ar cr,v=.slice ar q.length cr∧Kp (gI a1) w w'∧(ar=a1∨gI ar=[w.heap.size])∧Ow e enc z w' ar cr q:=by
 subst qn hq;obtain⟨bytes,E4,hb⟩:∃bytes,(P.info? e).map (λi=>(i.size,i.bytes,i.zero))=some (z,bytes,some zv)∧Nat.ble bytes 1024=true:=by
  cases n7:P.info? e with
  |none=>simp[n7]at hi
  |some inf=>
   simp[n7]at hi;exact⟨inf.bytes,by simp[hi.1,hi.2.2],by simpa using hi.2.1⟩
 obtain⟨ar,cr,w',hr,h1,h2,h3⟩:=a6I (P:=P) (ty:=ty) (c2:=c2) GW SX hu E4 qp hz how zU qo hb (by unfold V.ln at hl;exact hl);refine bg.pr (v:=.slice ar (l1++l2).length cr) (w':=w') ?_ ⟨ar,cr,rfl,h1,h2,h3⟩;simp only[execOp,resolve,Sem.run_bind,Sem.run_pure,Result.andThen_ok,invoke,builtin,List.map_toArray,List.map_cons,List.map_nil,H.ev (fw a) hs,H.ev (fw a) hx,hr]
theorem df{d:Nat}{x:Operand}{args:Array Operand}{uo:Array TypeId}{ty:TypeId}{pos:String}{after:Array Edge}{f:FuncId}{first as rP:List Value}{R:Value→World→Prop}(H:aj D n l a)
  (hx:callee l [] x=some (f,first,rP))(ha:pq l [] args.toList=some as)(hc:eJ P f ⟨first++as++rP⟩ w R):
  bg P ⟨some d,.call ⟨.value x,args,uo⟩,ty,pos,after,none⟩ a w R:=λQ N hN=>by
 unfold callee at hx;split at hx
 ·rename_i f' fi ca e3;simp only[Option.some.injEq,Prod.mk.injEq]at hx;obtain⟨rfl,rfl,rfl⟩:=hx;have hr:(execOp a.eval ⟨some d,.call ⟨.value x,args,uo⟩,ty,pos,after,none⟩).run P w=.ok (.enter f' ⟨fi++as++ca⟩) w:=by
   simp only[execOp,resolve,Deferred.ofValue,H.ev (fw a) e3,DU H (fw a) ha,Sem.run_bind,Sem.run_pure,Result.andThen_ok,invoke];have:=hc.call w;simpa using this
  unfold Oper.wp;rw[hr];refine hc.run.mono ?_;rintro e w' ⟨v,rfl,hR⟩;exact hN _ _ hR
 ·cases hx
end
def Rp(P:Program)(fn:Func)(R:Ending→World→Prop):eQ:=λa w=>a.defers=[]∧∃v,(results fn a.tmps).run P w=.ok v w∧R (.returned v) w
theorem dQ{P:Program}{f:FuncId}{fn:Func}{c:Code}{args:List Value}{w:World}{R:Ending→World→Prop}{n:Nat}
  (hf:P.funcs[f]?=some fn)(hb:fn.body=some c)(hn:fn.ntmps=n)(hl:Nat.ble args.length n=true)
  (h:∀a,aj [] n (BB args 0) a→c.wp P (Qs (Rp P fn R) [] (Rp P fn R)) a w):Calls P f ⟨args⟩ w R:=by
 have hl:args.length≤n:=by simpa using hl
 refine calls_of_wp hf hb (wp_mono (h _ ?_) ?_)
 ·refine⟨rfl,by simp[hn];omega,?_⟩;intro e he;obtain⟨h1,h2,h3⟩:=a6B he;rw[h1];refine⟨λ_=>?_,λx=>absurd (λp hp=>by cases hp) x⟩;simp only[Nat.sub_zero]at h3;have kL:e.1<args.length:=by
   rcases Nat.lt_or_ge e.1 args.length with h|h
   ·exact h
   ·rw[List.getElem?_eq_none h]at h3;cases h3
  rw[Array.getElem?_append_left (by simpa using kL)];simpa using h3
 ·intro e a w q;cases e with
  |normal=>exact q
  |ret=>exact q
  |exit i=>exact q.elim
  |goto i=>exact q.elim
  |panic i=>exact q.elim
  |outgrown=>exact q.elim
def E5(P:Program)(l:SF)(w:World):ResultVar→Value→Prop
 | .tmp t,v=>gw l t=some ([],v)
 | .cell t T,v=>∃b cs,gw l t=some ([],.pointer (some ⟨b,0,none⟩))∧(loadVar T ⟨b,0,none⟩).run P w=.ok v w∧jS w b cs
theorem aj.l7{n:Nat}{l:SF}{a:Act}(H:aj D n l a){t:Nat}{v:Value}(h:gw l t=some ([],v)):a.tmps[t]?.getD undef=v:=by
 rw[←Array.getD_eq_getD_getElem?];exact H.tmp h
section
variable {P:Program} {fn:Func} {R:Ending→World→Prop} {n:Nat} {l:SF} {a:Act} {w:World}
theorem ur{r:ResultVar}{v:Value}(H:aj [] n l a)(hr:fn.results=#[r])(h:E5 P l w r v)(hR:R (.returned v) w):Rp P fn R a w:=by
 refine⟨H.1,v,?_,hR⟩;cases r with
 |tmp t=>rw[results_tmp hr,H.tmp h]
 |cell t T=>
  obtain⟨b,cs,e1,e2,_⟩:=h;simp[results,hr,H.l7 e1,asAddr,e2]
theorem qt{r s:ResultVar}{v x:Value}(H:aj [] n l a)(hr:fn.results=#[r,s])(h:E5 P l w r v)(h2:E5 P l w s x)(hR:R (.returned (.tuple #[v,x])) w):Rp P fn R a w:=by
 refine⟨H.1,_,?_,hR⟩;cases r with
 |tmp t=>
  have e:=H.l7 h;cases s with
  |tmp u=>simp[results,hr,e,H.l7 h2]
  |cell u T=>
   obtain⟨b,cs,e1,e2,_⟩:=h2;simp[results,hr,e,H.l7 e1,asAddr,e2]
 |cell t T=>
  obtain⟨b,cs,e1,e2,_⟩:=h;cases s with
  |tmp u=>simp[results,hr,H.l7 e1,asAddr,e2,H.l7 h2]
  |cell u T2=>
   obtain⟨b2,cs2,k1,k2,_⟩:=h2;simp[results,hr,H.l7 e1,asAddr,e2,H.l7 k1,k2]
theorem nH(H:aj [] n l a)(hr:fn.results=#[])(hR:R (.returned (.tuple #[])) w):Rp P fn R a w:=⟨H.1,_,by rw[results_none hr],hR⟩
theorem a0d{r s q:ResultVar}{v x y:Value}(H:aj [] n l a)(hr:fn.results=#[r,s,q])(h:E5 P l w r v)(h2:E5 P l w s x)(h3:E5 P l w q y)(hR:R (.returned (.tuple #[v,x,y])) w):Rp P fn R a w:=by
 refine⟨H.1,_,?_,hR⟩;cases r with
 |tmp t=>
  have e:=H.l7 h;cases s with
  |tmp u=>
   have e':=H.l7 h2;cases q with
   |tmp z=>simp[results,hr,e,e',H.l7 h3]
   |cell z T=>obtain⟨b,cs,e1,e2,_⟩:=h3;simp[results,hr,e,e',H.l7 e1,asAddr,e2]
  |cell u T=>
   obtain⟨b2,cs2,k1,k2,_⟩:=h2;cases q with
   |tmp z=>simp[results,hr,e,H.l7 k1,k2,asAddr,H.l7 h3]
   |cell z T=>obtain⟨b,cs,e1,e2,_⟩:=h3;simp[results,hr,e,H.l7 k1,k2,H.l7 e1,asAddr,e2]
 |cell t T=>
  obtain⟨b3,cs3,j1,j2,_⟩:=h;cases s with
  |tmp u=>
   have e':=H.l7 h2;cases q with
   |tmp z=>simp[results,hr,H.l7 j1,j2,asAddr,e',H.l7 h3]
   |cell z T=>obtain⟨b,cs,e1,e2,_⟩:=h3;simp[results,hr,H.l7 j1,j2,e',H.l7 e1,asAddr,e2]
  |cell u T=>
   obtain⟨b2,cs2,k1,k2,_⟩:=h2;cases q with
   |tmp z=>simp[results,hr,H.l7 j1,j2,H.l7 k1,k2,asAddr,H.l7 h3]
   |cell z T=>obtain⟨b,cs,e1,e2,_⟩:=h3;simp[results,hr,H.l7 j1,j2,H.l7 k1,k2,H.l7 e1,asAddr,e2]
theorem r7{t b:Nat}{T:TypeId}{cs:List Value}{d:TypeDesc}(h:gw l t=some ([],.pointer (some ⟨b,0,none⟩)))(hb:jS w b cs)(hu:P.underlying T=some d)
  (hd:(match d with| .struct _| .array _ _=>true|_=>false)=true)(hz:(P.info? T).map (·.size)=some cs.length):E5 P l w (.cell t T) (.agg ⟨cs⟩):=by
 refine⟨b,cs,h,?_,hb⟩;have hv:V.bH b 0 cs 0 w:=hb.eW (by simp);have hi:(isAgg T).run P w=.ok true w:=by
  cases d<;>simp at hd<;>simp[isAgg,run_underlying hu]
 have hl:=run_loadCells (P:=P) (w:=w) (b:=b) (off:=0) cs 0 #[] (SG (Below.refl _ _) hv);simp only[loadVar,Sem.run_bind,Result.andThen_ok,hi,if_true,ot hz,loadCells,hl,Sem.run_pure];simp
end
end
inductive Gh where
 |nil
 |mk (a:Option Addr) (c:Nat) (s:Nat→Nat→Gh)
def Gh.a:Gh→Option Addr
 | .nil=>none
 | .mk a _ _=>a
def Gh.c:Gh→Nat
 | .nil=>0
 | .mk _ c _=>c
def Gh.s:Gh→Nat→Nat→Gh
 | .nil=>λ_ _=>.nil
 | .mk _ _ s=>s
instance:Inhabited Gh:=⟨.nil⟩
def gL(l:List Gh):Nat→Gh:=λk=>l.getD k .nil
def sL(l:List (Nat→Gh)):Nat→Nat→Gh:=λi=>l.getD i (λ_=>.nil)
abbrev Av:=Nat→Prop
def F0:Av:=λ_=>False
structure Ty(α:Type) where
 z:Nat
 enc:α→(Nat→Gh)→List Value
 bP:Av→World→α→(Nat→Gh)→Prop
 len:∀x g,(enc x g).length=z
 one:∀x g,qY (enc x g)=true
 kp:∀{M w w' X x g},bP M w x g→Kp X w w'→(∀b∈X,M b)→bP M w' x g
 bW:∀{M M' w x g},bP M w x g→(∀b,M' b→M b)→bP M' w x g
 fresh:∀{M w x g},bP M w x g→bP (λb=>M b∨w.heap.size≤b) w x g
structure pw{α:Type}(z:Nat)(enc:α→(Nat→Gh)→List Value)(M:Av)(w:World)(l:List α)(g:Gh):Prop where
 ok:0<l.length→eg g.a
 lt:0<l.length→ab g.a<w.heap.size
 av:0<l.length→¬M (ab g.a)
 get:∀i (h:i<l.length) j v,(enc l[i] (g.s i))[j]?=some v→w.cell? ⟨ab g.a,ao g.a+i*z+j,none⟩=some v
 cp:l.length≤g.c
section
variable {α:Type} {z:Nat} {enc:α→(Nat→Gh)→List Value} {M M':Av} {w w':World} {l:List α} {g:Gh} {X:List Nat}
theorem pw.kp(h:pw z enc M w l g)(k:Kp X w w')(hX:∀b∈X,M b):pw z enc M w' l g:=
 ⟨h.ok,λhl=>Nat.lt_of_lt_of_le (h.lt hl) k.size,h.av,λi hi j v hv=>by
  have hl:0<l.length:=by omega
  rw[World.cell?_of_block (w:=w) (k.block (ab g.a) (h.lt hl) (λhx=>h.av hl (hX _ hx)))];exact h.get i hi j v hv,h.cp⟩
theorem pw.bW(h:pw z enc M w l g)(hM:∀b,M' b→M b):pw z enc M' w l g:=⟨h.ok,h.lt,λhl hm=>h.av hl (hM _ hm),h.get,h.cp⟩
theorem pw.fresh(h:pw z enc M w l g):pw z enc (λb=>M b∨w.heap.size≤b) w l g:=
 ⟨h.ok,h.lt,λhl hm=>by
  rcases hm with hm|hm
  ·exact h.av hl hm
  ·have:=h.lt hl;omega,h.get,h.cp⟩
theorem pw.nil:pw z enc M w ([]:List α) g:=⟨λh=>by simp at h,λh=>by simp at h,λh=>by simp at h,λi h=>(by simp at h),Nat.zero_le _⟩
end
def aM{α:Type}(T:Ty α)(M:Av)(w:World)(l:List α)(g:Gh):Prop:=pw T.z T.enc M w l g∧∀i (h:i<l.length),T.bP M w l[i] (g.s i)
section
variable {α:Type} {T:Ty α} {M M':Av} {w w':World} {l:List α} {g:Gh} {X:List Nat}
theorem aM.kp(h:aM T M w l g)(k:Kp X w w')(hX:∀b∈X,M b):aM T M w' l g:=⟨h.1.kp k hX,λi hi=>T.kp (h.2 i hi) k hX⟩
theorem aM.bW(h:aM T M w l g)(hM:∀b,M' b→M b):aM T M' w l g:=⟨h.1.bW hM,λi hi=>T.bW (h.2 i hi) hM⟩
theorem aM.fresh(h:aM T M w l g):aM T (λb=>M b∨w.heap.size≤b) w l g:=⟨h.1.fresh,λi hi=>T.fresh (h.2 i hi)⟩
theorem aM.nil:aM T M w [] g:=⟨pw.nil,λi h=>by simp at h⟩
theorem aM.f0(h:aM T M w l g):aM T F0 w l g:=h.bW λ_ h=>h.elim
theorem aM.below(h:aM T M w l g)(hb:Below w.heap.size w w'):aM T M w' l g:=h.kp (Kp.yD hb []) (by simp)
theorem aM.c9 [Inhabited α](h:aM T M w l g){i:Int}(hi:0≤i∧i<ln l)(j:Nat){v:Value}(hv:(T.enc (gi l i) (g.s i.toNat))[j]?=some v):V.c9 ⟨ab g.a,ao g.a+i.toNat*T.z+j,none⟩ v w:=by
 have hl:i.toNat<l.length:=by unfold ln at hi;omega
 have hg:gi l i=l[i.toNat]:=by simp[gi,List.getD_eq_getElem?_getD,List.getElem?_eq_getElem hl]
 rw[hg]at hv;exact⟨h.1.get _ hl j v hv,h.1.lt (by omega)⟩
theorem aM.dp [Inhabited α](h:aM T M w l g){i:Int}(hi:0≤i∧i<ln l)(off:Nat){vs:List Value}(hv:((T.enc (gi l i) (g.s i.toNat)).drop off).take vs.length=vs):
  V.bH (ab g.a) (ao g.a+i.toNat*T.z+off) vs 0 w:=by
 refine OA _ 0 λq hq=>?_;have h1:(((T.enc (gi l i) (g.s i.toNat)).drop off).take vs.length)[q]?=some vs[q]:=by rw[hv];exact List.getElem?_eq_getElem hq
 rw[List.getElem?_take_of_lt hq,List.getElem?_drop]at h1;have:=h.c9 hi (off+q) h1;rw[Nat.zero_add,Nat.add_assoc];exact this
theorem aM.iK(h:aM T M w l g){i:Int}(hi:0≤i∧i<ln l):eg g.a∧0≤i∧i<ln l:=⟨h.1.ok (by unfold ln at hi;omega),hi⟩
theorem aM.el [Inhabited α](h:aM T M w l g){i:Int}(hi:0≤i∧i<ln l):T.bP M w (gi l i) (g.s i.toNat):=by
 have hl:i.toNat<l.length:=by unfold ln at hi;omega
 have hg:gi l i=l[i.toNat]:=by simp[gi,List.getD_eq_getElem?_getD,List.getElem?_eq_getElem hl]
 rw[hg];exact h.2 _ hl
end
def Ty.flat{α:Type}(z:Nat)(enc:α→List Value)(hl:∀x,(enc x).length=z)(ho:∀x,qY (enc x)=true):Ty α where
 z:=z
 enc:=λx _=>enc x
 bP:=λ_ _ _ _=>True
 len:=λx _=>hl x
 one:=λx _=>ho x
 kp:=λ_ _ _=>trivial
 bW:=λ_ _=>trivial
 fresh:=λ_=>trivial
def tI(k:IntKind):Ty Int:=.flat 1 (λx=>[.int k x]) (λ_=>rfl) (λ_=>rfl)
def tS:Ty a7:=.flat 1 (λx=>[.string ⟨⟨x⟩⟩]) (λ_=>rfl) (λ_=>rfl)
def tB:Ty Bool:=.flat 1 (λx=>[.bool x]) (λ_=>rfl) (λ_=>rfl)
def Ty.sl{α:Type}(T:Ty α):Ty (List α) where
 z:=1
 enc:=λl g=>[.slice (g 0).a l.length (g 0).c]
 bP:=λM w l g=>aM T M w l (g 0)
 len:=λ_ _=>rfl
 one:=λ_ _=>rfl
 kp:=λh k hX=>aM.kp h k hX
 bW:=λh hM=>aM.bW h hM
 fresh:=λh=>aM.fresh h
theorem fH{α:Type}{T:Ty α}{M:Av}{w:World}{x:List α}{g:Nat→Gh}(h:(Ty.sl T).bP M w x g):aM T M w x (g 0):=h
def dt{α:Type}:List α→(Nat→Nat→Gh)→Nat→List (α×(Nat→Gh))
 |[],_,_=>[]
 |x::r,s,i=>(x,s i)::dt r s (i+1)
theorem gJ{α:Type}:∀(l:List α)(s:Nat→Nat→Gh)(i:Nat),(dt l s i).length=l.length
 |[],_,_=>rfl
 |x::r,s,i=>by simp[dt,gJ r s (i+1)]
theorem T5{α:Type}:∀(l:List α)(s:Nat→Nat→Gh)(i q:Nat)(h:q<(dt l s i).length),(dt l s i)[q]=(l[q]'(by rw[gJ]at h;exact h),s (i+q))
 |x::r,s,i,0,h=>by simp[dt]
 |x::r,s,i,q+1,h=>by
  simp only[dt,List.getElem_cons_succ];rw[T5 r s (i+1) q];simp[Nat.add_assoc,Nat.add_comm 1 q]
theorem OG{α:Type}:∀(l:List α)(s s':Nat→Nat→Gh)(i:Nat),(∀q,q<l.length→s (i+q)=s' (i+q))→dt l s i=dt l s' i
 |[],_,_,_,_=>rfl
 |x::r,s,s',i,h=>by
  simp only[dt];have h0:=h 0 (by simp);rw[Nat.add_zero]at h0;rw[h0,OG r s s' (i+1) (λq hq=>by
   have:=h (q+1) (by simpa using hq);rwa [Nat.add_assoc,Nat.add_comm 1 q])]
def zY(n:Nat)(s1 s2:Nat→Nat→Gh):Nat→Nat→Gh:=λi=>if i<n then s1 i else s2 (i-n)
theorem T6{α:Type}:∀(l:List α)(s s':Nat→Nat→Gh)(i j:Nat),(∀q,s (i+q)=s' (j+q))→dt l s i=dt l s' j
 |[],_,_,_,_,_=>rfl
 |x::r,s,s',i,j,h=>by
  simp only[dt];have h0:=h 0;rw[Nat.add_zero,Nat.add_zero]at h0;rw[h0,T6 r s s' (i+1) (j+1) (λq=>by
   have:=h (q+1);rwa [Nat.add_assoc,Nat.add_comm 1 q,Nat.add_assoc,Nat.add_comm 1 q])]
theorem OH{α:Type}:∀(l1 l2:List α)(s:Nat→Nat→Gh)(i:Nat),dt (l1++l2) s i=dt l1 s i++dt l2 s (i+l1.length)
 |[],l2,s,i=>by simp[dt]
 |x::r,l2,s,i=>by
  simp only[List.cons_append,dt,OH r l2 s (i+1),List.length_cons];rw[Nat.add_assoc,Nat.add_comm 1 r.length]
theorem a6P{α:Type}(l1 l2:List α)(s1 s2:Nat→Nat→Gh):dt (l1++l2) (zY l1.length s1 s2) 0=dt l1 s1 0++dt l2 s2 0:=by
 rw[OH];congr 1
 ·exact OG _ _ _ _ λq hq=>by simp[zY,hq]
 ·exact T6 _ _ _ _ _ λq=>by
   simp only[zY];rw[if_neg (by omega)];congr 1;omega
def gn{α:Type}(T:Ty α):α×(Nat→Gh)→List Value:=λp=>T.enc p.1 p.2
structure l8{α:Type}(E:TypeId)(T:Ty α)(M:Av)(w:World)(l:List α)(g:Gh):Prop where
 ow:Ow E (gn T) T.z w g.a g.c (dt l g.s 0)
 bP:∀i (h:i<l.length),T.bP M w l[i] (g.s i)
section
variable {α:Type} {E:TypeId} {T:Ty α} {M M':Av} {w w':World} {l:List α} {g:Gh} {X:List Nat}
theorem l8.kp(h:l8 E T M w l g)(k:Kp X w w')(hM:∀b∈X,M b)(hX:∀b∈gI g.a,b∉X):l8 E T M w' l g:=⟨h.ow.kp k hX,λi hi=>T.kp (h.bP i hi) k hM⟩
theorem l8.bW(h:l8 E T M w l g)(hM:∀b,M' b→M b):l8 E T M' w l g:=⟨h.ow,λi hi=>T.bW (h.bP i hi) hM⟩
theorem l8.fresh(h:l8 E T M w l g):l8 E T (λb=>M b∨w.heap.size≤b) w l g:=⟨h.ow,λi hi=>T.fresh (h.bP i hi)⟩
theorem a6Q{α:Type}{z:Nat}{T:Ty α}{w:World}{a:Option Addr}{l:List α}{s:Nat→Nat→Gh}(h:Sl (gn T) z w a (dt l s 0)):
  ∀i (h:i<l.length) j v,(T.enc l[i] (s i))[j]?=some v→w.cell? ⟨ab a,ao a+i*z+j,none⟩=some v:=λi hi j v hv=>by
 have lI:i<(dt l s 0).length:=by rw[gJ];exact hi
 refine h.get i lI j v ?_;rw[T5];simpa[gn]using hv
theorem l8.cp(h:l8 E T M w l g):l.length≤g.c:=by
 have hl:=gJ l g.s 0;rcases h.ow.row.2 with⟨h0,h1⟩|⟨b,cap,r6,hv,_,_,h3,_⟩
 ·omega
 ·simp only[Value.slice.injEq]at hv;omega
theorem l8.sl(h:l8 E T M w l g)(Kl:∀b∈gI g.a,¬M' b)(hM:∀b,M' b→M b):aM T M' w l g:=by
 have hs:=h.ow.sl (λ(p:α×(Nat→Gh))=>T.len p.1 p.2);refine⟨⟨λhl=>hs.ok (by rw[gJ];exact hl),λhl=>hs.lt (by rw[gJ];exact hl),λhl=>Kl _ (h.ow.mem (by rw[gJ];exact hl)),a6Q hs,h.cp⟩,λi hi=>T.bW (h.bP i hi) hM⟩
theorem l8.Oz(h:l8 E T M w l g):aM T F0 w l g:=h.sl (λ_ _ h=>h.elim) (λ_ h=>h.elim)
theorem l8.el [Inhabited α](h:l8 E T M w l g){i:Int}(hi:0≤i∧i<V.ln l):T.bP M w (gi l i) (g.s i.toNat):=by
 have hl:i.toNat<l.length:=by unfold V.ln at hi;omega
 have hg:gi l i=l[i.toNat]:=by simp[gi,List.getD_eq_getElem?_getD,List.getElem?_eq_getElem hl]
 rw[hg];exact h.bP _ hl
theorem l8.nil:l8 E T M w [] .nil:=⟨Ow.nil _ _ _ _,λi h=>by simp at h⟩
theorem aM.zip(h:aM T M w l g):Sl (gn T) T.z w g.a (dt l g.s 0):=by
 refine⟨λhl=>h.1.ok (by rw[gJ]at hl;exact hl),λhl=>h.1.lt (by rw[gJ]at hl;exact hl),λi hi j v hv=>?_⟩;rw[T5]at hv;exact h.1.get i (by rw[gJ]at hi;exact hi) j v (by simpa[gn]using hv)
end
structure aB where
 fp:List Nat
 p:Av→World→Prop
 kp:∀{M w w' X},p M w→Kp X w w'→(∀b∈X,M b)→(∀b∈fp,b∉X)→p M w'
 bW:∀{M M' w},p M w→(∀b,M' b→M b)→p M' w
 fresh:∀{M w},p M w→p (λb=>M b∨w.heap.size≤b) w
 lt:∀{M w},p M w→∀b∈fp,b<w.heap.size
def aB.im{α:Type}(T:Ty α)(l:List α)(g:Gh):aB where
 fp:=[]
 p:=λM w=>aM T M w l g
 kp:=λh k hM _=>h.kp k hM
 bW:=λh hM=>h.bW hM
 fresh:=λh=>h.fresh
 lt:=λ_ b hb=>by cases hb
def aB.own{α:Type}(E:TypeId)(T:Ty α)(l:List α)(g:Gh):aB where
 fp:=gI g.a
 p:=λM w=>l8 E T M w l g
 kp:=λh k hM hX=>h.kp k hM hX
 bW:=λh hM=>h.bW hM
 fresh:=λh=>h.fresh
 lt:=λh=>h.ow.lt
def aB.my(b:Nat)(cs:List Value):aB where
 fp:=[b]
 p:=λ_ w=>jS w b cs
 kp:=λh k _ hX=>h.kp k (hX b (by simp))
 bW:=λh _=>h
 fresh:=λh=>h
 lt:=λh=>h.ltl
def aB.ro(b:Nat)(cs:List Value):aB where
 fp:=[]
 p:=λM w=>jS w b cs∧¬M b
 kp:=λh k hM _=>⟨h.1.kp k (λhx=>h.2 (hM _ hx)),h.2⟩
 bW:=λh hM=>⟨h.1,λhb=>h.2 (hM _ hb)⟩
 fresh:=λh=>⟨h.1,λhb=>by
  rcases hb with hb|hb
  ·exact h.2 hb
  ·have:=h.1.lt;omega⟩
 lt:=λ_ b hb=>by cases hb
def aB.row(k:IntKind)(b:Nat)(l:List Int)(n:Int):aB where
 fp:=[b]
 p:=λ_ w=>Rw k w b l∧V.ln l=n
 kp:=λh kp _ hX=>⟨h.1.kp kp (hX b (by simp)),h.2⟩
 bW:=λh _=>h
 fresh:=λh=>h
 lt:=λh=>by simpa using h.1.lt
def aB.none:aB where
 fp:=[]
 p:=λ_ _=>True
 kp:=λ_ _ _ _=>trivial
 bW:=λ_ _=>trivial
 fresh:=λ_=>trivial
 lt:=λ_ b hb=>by cases hb
def aD:List aB→List Nat
 |[]=>[]
 |e::r=>e.fp++aD r
theorem jT{L:List aB}{b:Nat}:b∈aD L↔∃e∈L,b∈e.fp:=by
 induction L with
 |nil=>simp[aD]
 |cons e r ih=>simp[aD,ih]
def ep(M:Av)(L:List aB):Av:=λb=>M b∨b∈aD L
structure SH(M:Av)(X:List Nat)(w0:World)(L:List aB)(w:World):Prop where
 kp:Kp X w0 w
 nd:L.Pairwise λe f=>Dj e.fp f.fp
 lo:∀b∈aD L,w0.heap.size≤b∨b∈X
 nm:∀b∈aD L,¬M b
 mx:∀b,M b→b<w0.heap.size
 ps:∀e∈L,e.p (ep M L) w
abbrev S0(M:Av)(L:List aB)(w:World):Prop:=SH M (aD L) w L w
def eE(L:List aB)(ks:List Nat):List aB:=ks.map λk=>L.getD k .none
def GY(L:List aB)(k:Nat):List Nat→Bool
 |[]=>true
 |r::q=>(!(Nat.beq k r)||(L.getD k .none).fp.isEmpty)&&GY L k q
def kM(L:List aB):List Nat→Bool
 |[]=>true
 |k::q=>GY L k q&&kM L q
def tp(L:List aB)(rs:List Nat):List Nat→Bool
 |[]=>true
 |k::q=>GY L k rs&&tp L rs q
section
variable {M:Av} {X:List Nat} {w0 w w':World} {L:List aB}
theorem a0e:∀{L:List aB},L.Pairwise (λe f=>Dj e.fp f.fp)→∀(i j:Nat),i≠j→Dj (L.getD i .none).fp (L.getD j .none).fp
 |[],_,i,j,_,y,h=>by simp[aB.none]at h
 |l::r,hn,i,j,dP,y,h=>by
  rw[List.pairwise_cons]at hn;have mem:∀{k:Nat}{y:Nat},y∈(r.getD k .none).fp→r.getD k .none∈r:=λ{k y} hy=>by
   rw[List.getD_eq_getElem?_getD]at hy⊢;cases hg:r[k]? with
   |none=>simp[hg,aB.none]at hy
   |some l=>simp only[Option.getD_some];exact List.mem_of_getElem? hg
  match i,j with
  |0,0=>exact absurd rfl dP
  |0,j+1=>
   simp only[List.getD_cons_zero,List.getD_cons_succ]at h⊢;exact λhy=>hn.1 _ (mem hy) y h hy
  |i+1,0=>
   simp only[List.getD_cons_zero,List.getD_cons_succ]at h⊢;exact λhy=>hn.1 _ (mem h) y hy h
  |i+1,j+1=>
   simp only[List.getD_cons_succ]at h⊢;exact a0e hn.2 i j (by omega) y h
theorem SH.dj(h:SH M X w0 L w){a b:Nat}(lW:(!(Nat.beq a b)||(L.getD a .none).fp.isEmpty)=true):Dj (L.getD a .none).fp (L.getD b .none).fp:=by
 rw[Bool.or_eq_true]at lW;rcases lW with lW|lW
 ·exact a0e h.nd a b (λe=>by subst e;simp at lW)
 ·rw[List.isEmpty_iff]at lW;rw[lW];intro y hy;cases hy
theorem a6R{L:List aB}{k b:Nat}(hb:b∈(L.getD k .none).fp):L.getD k .none∈L:=by
 rw[List.getD_eq_getElem?_getD]at hb⊢;cases hg:L[k]? with
 |none=>simp[hg,aB.none]at hb
 |some l=>simp only[Option.getD_some];exact List.mem_of_getElem? hg
theorem T7{L:List aB}{k:Nat}:∀{rs:List Nat},GY L k rs=true→∀r∈rs,(!(Nat.beq k r)||(L.getD k .none).fp.isEmpty)=true
 |[],_,r,hr=>by cases hr
 |q::rs,h,r,hr=>by
  unfold GY at h;rw[Bool.and_eq_true]at h;rcases List.mem_cons.1 hr with rfl|hr
  ·exact h.1
  ·exact T7 h.2 r hr
theorem a0f{L:List aB}{rs:List Nat}:∀{ks:List Nat},tp L rs ks=true→∀k∈ks,GY L k rs=true
 |[],_,k,hk=>by cases hk
 |q::ks,h,k,hk=>by
  unfold tp at h;rw[Bool.and_eq_true]at h;rcases List.mem_cons.1 hk with rfl|hk
  ·exact h.1
  ·exact a0f h.2 k hk
theorem SH.OI(h:SH M X w0 L w):∀{ks:List Nat},kM L ks=true→(eE L ks).Pairwise λe f=>Dj e.fp f.fp
 |[],_=>List.Pairwise.nil
 |k::q,hk=>by
  unfold kM at hk;rw[Bool.and_eq_true]at hk;show((L.getD k .none)::eE L q).Pairwise _;rw[List.pairwise_cons];refine⟨λe he=>?_,h.OI hk.2⟩;obtain⟨r,hr,rfl⟩:=List.mem_map.1 he;exact h.dj (T7 hk.1 r hr)
theorem T8{ks:List Nat}{b:Nat}(h:b∈aD (eE L ks)):∃k∈ks,b∈(L.getD k .none).fp:=by
 obtain⟨e,he,hb⟩:=jT.1 h;obtain⟨k,hk,rfl⟩:=List.mem_map.1 he;exact⟨k,hk,hb⟩
theorem tq{ks:List Nat}{b:Nat}(h:b∈aD (eE L ks)):b∈aD L:=by
 obtain⟨k,_,hb⟩:=T8 h;exact jT.2 ⟨_,a6R hb,hb⟩
theorem SH.T9(h:SH M X w0 L w){ks:List Nat}{e:aB}(he:e∈eE L ks):e.p (ep M L) w:=by
 obtain⟨k,_,rfl⟩:=List.mem_map.1 he;rw[List.getD_eq_getElem?_getD];cases hg:L[k]? with
 |none=>exact trivial
 |some l=>exact h.ps l (List.mem_of_getElem? hg)
theorem SH.a0g(h:SH M X w0 L w){b:Nat}(hb:b∈aD L):b<w.heap.size:=by
 obtain⟨e,he,hb⟩:=jT.1 hb;exact e.lt (h.ps e he) b hb
theorem SH.a0h(h:SH M X w0 L w){ks rs:List Nat}(hx:tp L rs ks=true){b:Nat}(h1:b∈aD (eE L ks))(h2:b∈aD (eE L rs)):False:=by
 obtain⟨k,hk,hb⟩:=T8 h1;obtain⟨r,hr,zZ⟩:=T8 h2;exact h.dj (T7 (a0f hx k hk) r hr) b hb zZ
theorem SH.aV(h:SH M X w0 L w)(ks:List Nat)(hk:kM L ks=true):SH M X w0 (eE L ks) w:=
 ⟨h.kp,h.OI hk,λb hb=>h.lo b (tq hb),λb hb=>h.nm b (tq hb),h.mx,λe he=>e.bW (h.T9 he) λb hb=>by
  rcases hb with hb|hb
  ·exact .inl hb
  ·exact .inr (tq hb)⟩
theorem SH.hand(h:SH M X w0 L w)(ks rs:List Nat)(hk:kM L ks=true)(hx:tp L rs ks=true):S0 (ep M (eE L rs)) (eE L ks) w:=by
 refine⟨Kp.refl _ _,h.OI hk,λb hb=>.inr hb,λb hb hm=>?_,λb hm=>?_,λe he=>e.bW (h.T9 he) λb hb=>?_⟩
 ·rcases hm with hm|hm
  ·exact h.nm b (tq hb) hm
  ·exact h.a0h hx hb hm
 ·rcases hm with hm|hm
  ·exact Nat.lt_of_lt_of_le (h.mx b hm) h.kp.size
  ·exact h.a0g (tq hm)
 ·rcases hb with(hb|hb)|hb
  ·exact .inl hb
  ·exact .inr (tq hb)
  ·exact .inr (tq hb)
theorem SH.join(h:SH M X w0 L w)(ks rs:List Nat)(hr:kM L rs=true)(hx:tp L rs ks=true){L':List aB}(h2:SH (ep M (eE L rs)) (aD (eE L ks)) w L' w'):SH M X w0 (L'++eE L rs) w':=by
 have jo:∀{b:Nat},b∈aD (L'++eE L rs)→b∈aD L'∨b∈aD (eE L rs):=λhb=>by
  obtain⟨e,he,hb⟩:=jT.1 hb;rcases List.mem_append.1 he with he|he
  ·exact .inl (jT.2 ⟨e,he,hb⟩)
  ·exact .inr (jT.2 ⟨e,he,hb⟩)
 refine⟨h.kp.trans h2.kp (λy hy=>?_),?_,λb hb=>?_,λb hb=>?_,h.mx,λe he=>?_⟩
 ·rcases h.lo y (tq hy)with h1|h1
  ·exact .inr h1
  ·exact .inl h1
 ·rw[List.pairwise_append];refine⟨h2.nd,h.OI hr,λe he f hf y hy A0=>?_⟩;exact h2.nm y (jT.2 ⟨e,he,hy⟩) (.inr (jT.2 ⟨f,hf,A0⟩))
 ·rcases jo hb with hb|hb
  ·rcases h2.lo b hb with h1|h1
   ·exact .inl (Nat.le_trans h.kp.size h1)
   ·exact h.lo b (tq h1)
  ·exact h.lo b (tq hb)
 ·rcases jo hb with hb|hb
  ·exact λhm=>h2.nm b hb (.inl hm)
  ·exact h.nm b (tq hb)
 ·rcases List.mem_append.1 he with he|he
  ·refine e.bW (h2.ps e he) λb hb=>?_;rcases hb with hb|hb
   ·exact .inl (.inl hb)
   ·rcases jo hb with hb|hb
    ·exact .inr hb
    ·exact .inl (.inr hb)
  ·have hp:=e.fresh (h.T9 he);refine e.bW (e.kp hp h2.kp (λb hb=>.inl (.inr (tq hb))) (λb hb zZ=>?_)) λb hb=>?_
   ·exact h.a0h hx zZ (jT.2 ⟨e,he,hb⟩)
   ·rcases hb with hb|hb
    ·exact .inl (.inl hb)
    ·rcases jo hb with hb|hb
     ·rcases h2.lo b hb with h1|h1
      ·exact .inr h1
      ·exact .inl (.inr (tq h1))
     ·exact .inl (.inr (tq hb))
theorem SH.below(h:SH M X w0 L w)(hb:Below w.heap.size w w'):SH M X w0 L w':=
 ⟨h.kp.step hb,h.nd,h.lo,h.nm,h.mx,λe he=>e.kp (h.ps e he) (Kp.yD hb []) (by simp) (by simp)⟩
theorem SH.add(h:SH M X w0 L w){e:aB}(hf:e.fp=[])(hp:e.p (ep M L) w):SH M X w0 (e::L) w:=by
 have E6:aD (e::L)=aD L:=by simp[aD,hf]
 have Kl:ep M (e::L)=ep M L:=by unfold ep;rw[E6]
 refine⟨h.kp,?_,by rw[E6];exact h.lo,by rw[E6];exact h.nm,h.mx,λe' he=>?_⟩
 ·rw[List.pairwise_cons];exact⟨λf _ y hy=>(by rw[hf]at hy;cases hy),h.nd⟩
 ·rw[Kl];rcases List.mem_cons.1 he with rfl|he
  ·exact hp
  ·exact h.ps e' he
theorem SH.eF(h:SH M X w0 L w){α:Type}{T:Ty α}{l:List α}{g:Gh}(hs:aM T (ep M L) w l g):SH M X w0 (.im T l g::L) w:=h.add rfl hs
theorem SH.E7(h:SH M X w0 L w){α:Type}(E:TypeId)(T:Ty α):SH M X w0 (.own E T ([]:List α) .nil::L) w:=h.add rfl l8.nil
theorem SH.at(h:SH M X w0 L w)(k:Nat){e:aB}(hk:L[k]?=some e):e.p (ep M L) w:=h.ps e (List.mem_of_getElem? hk)
theorem SH.im(h:SH M X w0 L w)(k:Nat){α:Type}{T:Ty α}{l:List α}{g:Gh}(hk:L[k]?=some (.im T l g)):aM T (ep M L) w l g:=h.at k hk
theorem SH.ow(h:SH M X w0 L w)(k:Nat){α:Type}{E:TypeId}{T:Ty α}{l:List α}{g:Gh}(hk:L[k]?=some (.own E T l g)):l8 E T (ep M L) w l g:=h.at k hk
theorem SH.bD(h:SH M X w0 L w)(k:Nat){α:Type}{E:TypeId}{T:Ty α}{l:List α}{g:Gh}(hk:L[k]?=some (.own E T l g)):aM T F0 w l g:=(h.ow k hk).Oz
theorem SH.bk(h:SH M X w0 L w)(k:Nat){b:Nat}{cs:List Value}(hk:L[k]?=some (.my b cs)):jS w b cs:=h.at k hk
theorem SH.ro(h:SH M X w0 L w)(k:Nat){b:Nat}{cs:List Value}(hk:L[k]?=some (.ro b cs)):jS w b cs:=(h.at k hk).1
theorem SH.rw(h:SH M X w0 L w)(k:Nat){b:Nat}{q:IntKind}{l:List Int}{n:Int}(hk:L[k]?=some (.row q b l n)):Rw q w b l∧V.ln l=n:=h.at k hk
theorem SH.gz{α:Type}{E:TypeId}{T:Ty α}{l:List α}{g:Gh}(h:SH M X w0 (.own E T l g::L) w):SH M X w0 (.im T l g::L) w:=by
 have vM:∀{b:Nat},b∈aD (aB.im T l g::L)→b∈aD (aB.own E T l g::L):=λhb=>by
  simp only[aD,List.mem_append]at hb⊢;rcases hb with hb|hb
  ·cases hb
  ·exact .inr hb
 refine⟨h.kp,?_,λb hb=>h.lo b (vM hb),λb hb=>h.nm b (vM hb),h.mx,λe he=>?_⟩
 ·have:=h.nd;rw[List.pairwise_cons]at this⊢;exact⟨λf _ y hy=>(by cases hy),this.2⟩
 ·rcases List.mem_cons.1 he with rfl|he
  ·have ho:l8 E T (ep M (.own E T l g::L)) w l g:=h.ps _ List.mem_cons_self;refine ho.sl (λb hb hm=>?_) (λb hm=>?_)
   ·rcases hm with hm|hm
    ·exact h.nm b (by simp only[aD,List.mem_append];exact .inl hb) hm
    ·have us:b∈aD L:=by
      simp only[aD,List.mem_append]at hm;rcases hm with hm|hm
      ·cases hm
      ·exact hm
     have hn:=h.nd;rw[List.pairwise_cons]at hn;obtain⟨e,he,Km⟩:=jT.1 us;exact hn.1 e he b hb Km
   ·rcases hm with hm|hm
    ·exact .inl hm
    ·exact .inr (vM hm)
  ·exact e.bW (h.ps e (List.mem_cons_of_mem _ he)) λb hb=>by
    rcases hb with hb|hb
    ·exact .inl hb
    ·exact .inr (vM hb)
end
theorem S0.nil(w:World):S0 F0 [] w:=⟨Kp.refl _ _,List.Pairwise.nil,by simp[aD],by simp[aD],λ_ (hf:False)=>hf.elim,by simp⟩
theorem aA{w:World}{L:List aB}(h:S0 F0 L w∧aD L=[]){α:Type}{T:Ty α}{l:List α}{g:Gh}{M:Av}(hs:aM T M w l g):S0 F0 (.im T l g::L) w∧aD (.im T l g::L)=[]:=by
 refine⟨?_,by simp only[aD,h.2];rfl⟩;have h1:SH F0 (aD (.im T l g::L)) w L w:=by
  have:aD (.im T l g::L)=aD L:=by simp[aD,aB.im]
  rw[this];exact h.1
 refine h1.eF (hs.bW λb hb=>?_);rcases hb with hb|hb
 ·exact hb.elim
 ·rw[h.2]at hb;cases hb
theorem iR{w:World}{L:List aB}(h:S0 F0 L w∧aD L=[]){b:Nat}{cs:List Value}(hs:jS w b cs):S0 F0 (.ro b cs::L) w∧aD (.ro b cs::L)=[]:=by
 refine⟨?_,by simp only[aD,h.2];rfl⟩;have h1:SH F0 (aD (.ro b cs::L)) w L w:=by
  have:aD (.ro b cs::L)=aD L:=by simp[aD,aB.ro]
  rw[this];exact h.1
 refine h1.add rfl ⟨hs,λhb=>?_⟩;rcases hb with hb|hb
 ·exact hb.elim
 ·rw[h.2]at hb;cases hb
theorem aU{w:World}:S0 F0 [] w∧aD []=[]:=⟨S0.nil w,rfl⟩
theorem a6S{P:Program}{f:FuncId}{args:Array Value}{v:Value}(hc:∀w,(callFunc f args).run P w=.ok (.enter f args) w)
  (h:∀w,S0 F0 [] w→Calls P f args w λe w'=>∃u,e=.returned u∧u=v∧SH F0 (aD []) w [] w'):Bv P f args v:=
 a6C hc λw=>(h w (S0.nil w)).mono (by rintro e w' ⟨u,rfl,rfl,hS⟩;exact⟨rfl,hS.kp.below⟩)
theorem gA{P:Program}{f:FuncId}{args:Array Value}{v:Value}{w:World}{L:List aB}(hL:S0 F0 L w∧aD L=[])(hc:∀w,(callFunc f args).run P w=.ok (.enter f args) w)
  (h:∀w',S0 F0 L w'→Calls P f args w' λe rO=>∃u,e=.returned u∧u=v∧SH F0 (aD L) w' [] rO):lG P f args v w:=
 .inl ⟨hc,λw' hb=>by
  have h0:S0 F0 L w':=by
   have h1:=hL.1.below hb;refine⟨Kp.refl _ _,h1.nd,λb hb=>(by rw[hL.2]at hb;cases hb),h1.nm,λ_ (hf:False)=>hf.elim,h1.ps⟩
  refine(h w' h0).mono ?_;rintro e rO ⟨u,rfl,rfl,hS⟩;refine⟨rfl,?_⟩;have:=hS.kp;rw[hL.2]at this;exact this.below⟩
def GZ(s:a7)(c:Int):Int:=Lib.indexByte s c.toNat.toUInt8
theorem a6T{P:Program}{f:FuncId}{fn:Func}(hf:P.funcs[f]?=some fn)(a6U:(fn.name== "runtime.NumGoroutine")=false)
  (hb:fn.body.isNone=true)(hn:Extern.findNext fn=none)(he:Extern.find fn=some Extern.BytealgIndexByte.indexByte)(s:a7)(c:Int)(w:World):lG P f ⟨[.string ⟨⟨s⟩⟩,.int .u8 c]⟩ (.int .i64 (GZ s c)) w:=
 .inr λw' _=>by rw[run_callFunc_extern hf a6U hb hn he,Lib.run_indexByteString];rfl
section
variable {D:List Deferred}
theorem Kp.wide{X Y:List Nat}{w w':World}(h:Kp X w w')(hs:∀b∈X,b∈Y):Kp Y w w':=⟨h.os,h.tape,h.output,h.size,λk hk hx=>h.block k hk λhy=>hx (hs k hy)⟩
theorem SH.step{M:Av}{L L':List aB}{w w':World}(h:S0 M L w)(k:Kp (aD L) w w')(nd:L'.Pairwise λe f=>Dj e.fp f.fp)(lo:∀b∈aD L',w.heap.size≤b∨b∈aD L)(ps:∀e∈L',e.p (ep M L') w'):SH M (aD L) w L' w':=
 ⟨k,nd,lo,λb hb hm=>by
  rcases lo b hb with h1|h1
  ·have:=h.mx b hm;omega
  ·exact h.nm b h1 hm,h.mx,ps⟩
theorem Ty.step{α:Type}(T:Ty α){M:Av}{L L':List aB}{w w':World}{x:α}{g:Nat→Gh}(_h:S0 M L w)(k:Kp (aD L) w w')(lo:∀b∈aD L',w.heap.size≤b∨b∈aD L)(hi:T.bP (ep M L) w x g):T.bP (ep M L') w' x g:=by
 refine T.bW (T.kp (T.fresh hi) k (λb hb=>.inl (.inr hb))) λb hb=>?_;rcases hb with hb|hb
 ·exact .inl (.inl hb)
 ·rcases lo b hb with h1|h1
  ·exact .inr h1
  ·exact .inl (.inr h1)
section
variable {P:Program} {a:Act} {w:World} {n:Nat} {l:SF} {M:Av}
theorem bg.skip{o:Oper}{w':World}{K:Value→World→Prop}(hr:(execOp a.eval o).run P w=.ok .skip w')(hd:o.dst=none)(hk:∀v,K v w'):bg P o a w K:=λQ N hN=>by
 unfold Oper.wp;rw[hr];have h1:=hN undef w' (hk undef);obtain⟨dst,op,ty,pos,after,guard⟩:=o;obtain rfl:dst=none:=hd;exact h1
theorem a6V{d:Option Tmp}{E:TypeId}{x:Operand}{v:Value}{ty:TypeId}{pos:String}{after:Array Edge}(cs:List Value)(H:aj D n l a)(hS:S0 M [] w)(hx:ev l [] x=some v)(hc:v.cells.toList=cs):
  bg P ⟨d,.box E x,ty,pos,after,none⟩ a w λu w'=>∃b:Nat,u=.pointer (some ⟨b,0,none⟩)∧SH M (aD []) w [.my b cs] w':=by
 have hv:v.cells=⟨cs⟩:=by rw[←hc]
 have hN:=DZ w cs E;refine bg.pr (v:=.pointer (some ⟨w.heap.size,0,none⟩)) (w':=w.alloc (.cells ⟨cs⟩ E)) ?_ ⟨w.heap.size,rfl,SH.step hS hN.1 (by simp) (by simp[aD,aB.my]) ?_⟩
 ·simp[execOp,H.ev (fw a) hx,Instr.box,newVar,newRow,hv]
 ·intro e he;rw[List.mem_singleton]at he;subst he;exact hN.2
theorem vR{d:Option Tmp}{E:TypeId}{ty:TypeId}{pos:String}{after:Array Edge}(cs:List Value){z:Value}(hS:S0 M [] w)(hz:(P.info? E).map (·.zero)=some (some z))(hc:z.cells.toList=cs):
  bg P ⟨d,.alloc E,ty,pos,after,none⟩ a w λu w'=>∃b:Nat,u=.pointer (some ⟨b,0,none⟩)∧SH M (aD []) w [.my b cs] w':=by
 have hv:z.cells=⟨cs⟩:=by rw[←hc]
 have hN:=DZ w cs E;have yA:(zeroValue E).run P w=.ok z w:=by
  cases hi:P.info? E with
  |none=>simp[hi]at hz
  |some inf=>
   simp[hi]at hz;simp[zeroValue,typeInfo,hi,hz]
 refine bg.pr (v:=.pointer (some ⟨w.heap.size,0,none⟩)) (w':=w.alloc (.cells ⟨cs⟩ E)) ?_ ⟨w.heap.size,rfl,SH.step hS hN.1 (by simp) (by simp[aD,aB.my]) ?_⟩
 ·simp[execOp,Instr.alloc,yA,newVar,newRow,hv]
 ·intro e he;rw[List.mem_singleton]at he;subst he;exact hN.2
theorem r8{t:TypeId}{x y:Operand}{ty:TypeId}{pos:String}{after:Array Edge}{b off:Nat}{v:Value}{cs:List Value}(E8:List Value)(H:aj D n l a)(hS:S0 M [.my b cs] w)
  (hx:ev l [] x=some (.pointer (some ⟨b,off,none⟩)))(hy:ev l [] y=some v)
  (hz:(P.info? t).map (·.size)=some v.cells.toList.length)(h1:qY v.cells.toList=true)(hl:Nat.ble (off+v.cells.toList.length) cs.length=true)(hs:kZ cs off v.cells.toList=E8):
  bg P ⟨none,.store t x y,ty,pos,after,none⟩ a w λ_ w'=>SH M (aD [.my b cs]) w [.my b E8] w':=by
 obtain⟨w',h2,h3,h4⟩:=a04 (P:=P) (off:=off) v.cells.toList 0 w cs h1 (hS.bk 0 rfl) (by simpa using hl);rw[Nat.add_zero,hs]at h4;have lH:(sizeOf t).run P w=.ok v.cells.size w:=ot (by simpa using hz);refine bg.skip (w':=w') ?_ rfl λ_=>SH.step hS (h3.wide (by simp[aD,aB.my])) (by simp) (by simp[aD,aB.my]) ?_
 ·simp[execOp,H.ev (fw a) hx,H.ev (fw a) hy,Instr.storeAt,Instr.sureAddr,storeVar,lH,h2]
 ·intro e he;rw[List.mem_singleton]at he;subst he;exact h4
theorem OJ{t:TypeId}{x y:Operand}{ty:TypeId}{pos:String}{after:Array Edge}{k:IntKind}{b:Nat}{ix v m:Int}{r:List Int}(H:aj D n l a)(hS:S0 M [.row k b r m] w)
  (hx:ev l [] x=some (.pointer (some ⟨b,0+ix.toNat*1,none⟩)))(hy:ev l [] y=some (.int k v))(hz:(P.info? t).map (·.size)=some 1)(h0:0≤ix∧ix<m):
  bg P ⟨none,.store t x y,ty,pos,after,none⟩ a w λ_ w'=>SH M (aD [.row k b r m]) w [.row k b (yE r ix v) m] w':=by
 obtain⟨hr,hm⟩:=hS.rw 0 rfl;obtain⟨w',h2,h3,h4⟩:=a6H (P:=P) (v:=v) hr hz h0.1 (by rw[hm];exact h0.2);refine bg.skip (w':=w') ?_ rfl λ_=>SH.step hS (h3.wide (by simp[aD,aB.row])) (by simp) (by simp[aD,aB.row]) ?_
 ·simp only[execOp,H.ev (fw a) hx,H.ev (fw a) hy,Sem.run_bind,h2,Result.andThen_ok,Sem.run_pure]
 ·intro e he;rw[List.mem_singleton]at he;subst he;exact⟨h4,by rw[a6G];exact hm⟩
theorem Rw.H0{i m:Int}{k:IntKind}{w:World}{b:Nat}{q:List Int}(h:Rw k w b q∧V.ln q=m)(hi:0≤i∧i<m):V.c9 ⟨b,0+i.toNat*1,none⟩ (.int k (gi q i)) w:=h.1.c9 hi.1 (by rw[h.2];exact hi.2)
def ba{α:Type}(T:Ty α)(M:Av)(w:World):List α→List (Nat→Gh)→Prop
 |[],_=>True
 |x::r,gs=>T.bP M w x (gs.headD λ_=>.nil)∧ba T M w r gs.tail
theorem ba.nil{α:Type}{T:Ty α}{M:Av}{w:World}{gs:List (Nat→Gh)}:ba T M w [] gs:=trivial
theorem ba.cons{α:Type}{T:Ty α}{M:Av}{w:World}{x:α}{r:List α}{g:Nat→Gh}{gs:List (Nat→Gh)}(h:T.bP M w x g)(k:ba T M w r gs):ba T M w (x::r) (g::gs):=⟨h,k⟩
theorem ba.get{α:Type}{T:Ty α}{M:Av}{w:World}:∀{xs:List α}{gs:List (Nat→Gh)},ba T M w xs gs→∀i (h:i<xs.length),T.bP M w xs[i] (sL gs i)
 |x::r,gs,h,0,_=>by
  have:=h.1;cases gs with
  |nil=>simpa[sL]using this
  |cons g q=>simpa[sL]using this
 |x::r,gs,h,i+1,hi=>by
  have:=ba.get h.2 i (by simpa using hi);cases gs with
  |nil=>simpa[sL]using this
  |cons g q=>simpa[sL]using this
theorem OK{α:Type}{T:Ty α}{d:Nat}{t E:TypeId}{len:Nat}{zv:Value}{parts:Array (Nat×Operand)}{ty:TypeId}{pos:String}{after:Array Edge}{L:List aB}(cs:List Value)(xs:List α)(gs:List (Nat→Gh))
  (vs:List Value)(H:aj D n l a)(hS:S0 M L w)(he:pq l [] (parts.toList.map (·.2))=some vs)
  (hu:P.underlying t=some (.slice E))(hz:(P.info? E).map (·.size)=some T.z)(qZ:(P.info? E).map (·.zero)=some (some zv))(hlen:Nat.ble (len*T.z) 16777216=true)(p7:Nat.blt 0 (len*T.z)=true)
  (hf:Instr.fill (λi=>some (i*T.z,T.z)) ((Array.range (len*T.z)).map (zv.cells[· %zv.cells.size]!)) ((parts.toList.map (·.1)).zip vs)=some ⟨cs⟩)(Kk:((dt xs (sL gs) 0).map (gn T)).flatten=cs)(pT:xs.length=len)
  (jo:ba T (ep M L) w xs gs):
  bg P ⟨some d,.buildSlice t len parts,ty,pos,after,none⟩ a w λv w'=>∃g:Gh,v=.slice g.a len g.c∧SH M (aD L) w [.own E T xs g] w':=by
 refine(a6N (P:=P) (z:=T.z) (enc:=gn T) (a:=a) (w:=w) (ty:=ty) (pos:=pos) (after:=after) (d:=d) (λp=>T.len p.1 p.2) cs (dt xs (sL gs) 0) vs H he hu hz qZ hlen p7 hf Kk (by rw[gJ];exact pT)).mono ?_;rintro v w' ⟨a1,rfl,hk,ha,ho⟩;have lo:∀b∈aD [aB.own E T xs (.mk a1 len (sL gs))],w.heap.size≤b∨b∈aD L:=by
  intro b hb;simp only[aD,aB.own,Gh.a,ha,List.append_nil,List.mem_singleton]at hb;exact .inl (by omega)
 have xq:Kp (aD L) w w':=hk.wide (by simp);refine⟨.mk a1 len (sL gs),rfl,SH.step hS xq (by simp) lo ?_⟩;intro e he;rw[List.mem_singleton]at he;subst he;exact⟨ho,λi hi=>T.step hS xq lo (jo.get i hi)⟩
theorem Ta{α:Type}{T:Ty α}{d:Nat}{t E:TypeId}{ty:TypeId}{pos:String}{after:Array Edge}(hS:S0 M [] w)(hu:P.underlying t=some (.slice E))(hz:(P.info? E).map (·.size)=some T.z):
  bg P ⟨some d,.buildSlice t 0 #[],ty,pos,after,none⟩ a w λv w'=>∃g:Gh,v=.slice g.a 0 g.c∧SH M (aD []) w [.own E T ([]:List α) g] w':=by
 have hs:(sizeOf E).run P w=.ok T.z w:=ot hz;have hN:=DZ w [] E;have hr:(Instr.buildSlice t 0 #[]).run P w=.ok (.slice (some ⟨w.heap.size,0,none⟩) 0 0) (w.alloc (.cells ⟨[]⟩ E)):=by
  have h0:Array.map (λ_=>(default:Value)) (Array.range 0)=(⟨[]⟩:Array Value):=by simp
  simp only[Instr.buildSlice,Sem.run_bind,run_underlying hu,Result.andThen_ok,hs];simp[Instr.fill,newRow,h0]
 refine bg.pr (v:=.slice (some ⟨w.heap.size,0,none⟩) 0 0) (w':=w.alloc (.cells ⟨[]⟩ E)) (by simp[execOp,hr]) ⟨.mk (some ⟨w.heap.size,0,none⟩) 0 (λ_ _=>.nil),rfl,SH.step hS hN.1 (by simp) (by simp[aD,aB.own,Gh.a,gI]) ?_⟩;intro e he;rw[List.mem_singleton]at he;subst he;refine⟨?_,λi hi=>by simp at hi⟩;exact Ow.a0b (λ(p:α×(Nat→Gh))=>T.len p.1 p.2) (l:=[]) (by simp) (by show(w.heap.push _)[w.heap.size]?=_;simp)
theorem a0i{α:Type}{T:Ty α}{d:Nat}{s x:Operand}{t ty e:TypeId}{pos:String}{after:Array Edge}{zv:Value}{g1:Gh}{n1 n2 c1 c2:Nat}{a1 a2:Option Addr}{l1 l2:List α}{s2:Nat→Nat→Gh}(q:List α)(hq:l1++l2=q)(H:aj D n l a)
  (hs:ev l [] s=some (.slice a1 n1 c1))(hx:ev l [] x=some (.slice a2 n2 c2))(vX:g1.a=a1)(qu:g1.c=c1)(qn:l1.length=n1)(qo:l2.length=n2)
  (hu:P.underlying t=some (.slice e))(hi:(P.info? e).map (λi=>(i.size,Nat.ble i.bytes 1024,i.zero))=some (T.z,true,some zv))(qp:zv.cells.size=T.z)(hz:Nat.blt 0 T.z=true)
  (how:Ow e (gn T) T.z w g1.a g1.c (dt l1 g1.s 0))(zU:Sl (gn T) T.z w a2 (dt l2 s2 0))(hl:V.ln l1+V.ln l2≤137438953472):
  bg P ⟨some d,.call ⟨.builtin .append,#[s,x],#[t,t]⟩,ty,pos,after,none⟩ a w λv w'=>∃g:Gh,v=.slice g.a q.length g.c∧Kp (gI g1.a) w w'∧(g.a=g1.a∨gI g.a=[w.heap.size])∧Ow e (gn T) T.z w' g.a g.c (dt q g.s 0)∧g.s=zY l1.length g1.s s2:=by
 subst hq vX qu;refine(a6O (P:=P) (enc:=gn T) (z:=T.z) (d:=d) (ty:=ty) (pos:=pos) (after:=after) (λp=>T.len p.1 p.2) (λp=>T.one p.1 p.2) (dt l1 g1.s 0++dt l2 s2 0) rfl H hs hx (by rw[gJ];exact qn) (by rw[gJ];exact qo) hu hi qp hz how zU (by unfold V.ln at hl⊢;rw[gJ,gJ];exact hl)).mono ?_;rintro v w' ⟨ar,cr,rfl,hk,lJ,ho⟩;refine⟨.mk ar cr (zY l1.length g1.s s2),?_,hk,lJ,?_,rfl⟩
 ·simp[Gh.a,Gh.c,gJ]
 ·show Ow e (gn T) T.z w' ar cr (dt (l1++l2) (zY l1.length g1.s s2) 0);rw[a6P];exact ho
theorem a0j{α:Type}{T:Ty α}{M:Av}{w:World}{l1 l2:List α}{s1 s2:Nat→Nat→Gh}(h1:∀i (h:i<l1.length),T.bP M w l1[i] (s1 i))(h2:∀i (h:i<l2.length),T.bP M w l2[i] (s2 i)):
  ∀i (h:i<(l1++l2).length),T.bP M w (l1++l2)[i] (zY l1.length s1 s2 i):=λi hi=>by
 by_cases hl:i<l1.length
 ·rw[List.getElem_append_left hl];simp only[zY,hl,if_true];exact h1 i hl
 ·rw[List.getElem_append_right (by omega)];simp only[zY,hl,if_false];exact h2 _ _
theorem Kn{α:Type}{T:Ty α}{d:Nat}{s x:Operand}{t ty e:TypeId}{pos:String}{after:Array Edge}{zv:Value}{g1 g2:Gh}{n1 n2 c1 c2:Nat}{a1 a2:Option Addr}{l1 l2:List α}(q:List α)(hq:l1++l2=q)(H:aj D n l a)(hS:S0 M [.own e T l1 g1,.im T l2 g2] w)
  (hs:ev l [] s=some (.slice a1 n1 c1))(hx:ev l [] x=some (.slice a2 n2 c2))(vX:g1.a=a1)(qu:g1.c=c1)(E9:g2.a=a2)(qn:l1.length=n1)(qo:l2.length=n2)
  (hu:P.underlying t=some (.slice e))(hi:(P.info? e).map (λi=>(i.size,Nat.ble i.bytes 1024,i.zero))=some (T.z,true,some zv))(qp:zv.cells.size=T.z)(hz:Nat.blt 0 T.z=true)
  (hl:V.ln l1+V.ln l2≤137438953472):
  bg P ⟨some d,.call ⟨.builtin .append,#[s,x],#[t,t]⟩,ty,pos,after,none⟩ a w λv w'=>∃g:Gh,v=.slice g.a q.length g.c∧SH M (aD [.own e T l1 g1,.im T l2 g2]) w [.own e T q g] w':=by
 subst E9;have ho:=hS.ow 0 rfl;have hm:=hS.im 1 rfl;refine(a0i (P:=P) (d:=d) (ty:=ty) (pos:=pos) (after:=after) (g1:=g1) (s2:=g2.s) (l1:=l1) (l2:=l2) q hq H hs hx vX qu qn qo hu hi qp hz ho.ow hm.zip hl).mono ?_;rintro v w' ⟨g,rfl,hk,lJ,how,Kg⟩;have xq:Kp (aD [.own e T l1 g1,.im T l2 g2]) w w':=hk.wide (by intro b hb;simp only[aD,aB.own,List.mem_append];exact .inl hb);have lo:∀b∈aD [aB.own e T q g],w.heap.size≤b∨b∈aD [.own e T l1 g1,.im T l2 g2]:=by
  intro b hb;simp only[aD,aB.own,List.append_nil]at hb;rcases lJ with h|h
  ·exact .inr (by simp only[aD,aB.own,List.mem_append];exact .inl (h▸hb))
  ·rw[h]at hb;simp at hb;exact .inl (by omega)
 refine⟨g,rfl,SH.step hS xq (by simp) lo ?_⟩;intro f hf;rw[List.mem_singleton]at hf;subst hf;refine⟨how,?_⟩;subst hq;rw[Kg];exact a0j (λi hi=>T.step hS xq lo (ho.bP i hi)) (λi hi=>T.step hS xq lo (hm.2 i hi))
theorem Ea{α:Type}{T:Ty α}{d:Nat}{s x:Operand}{t ty e e2:TypeId}{pos:String}{after:Array Edge}{zv:Value}{g1 g2:Gh}{n1 n2 c1 c2:Nat}{a1 a2:Option Addr}{l1 l2:List α}(q:List α)(hq:l1++l2=q)(H:aj D n l a)(hS:S0 M [.own e T l1 g1,.own e2 T l2 g2] w)
  (hs:ev l [] s=some (.slice a1 n1 c1))(hx:ev l [] x=some (.slice a2 n2 c2))(vX:g1.a=a1)(qu:g1.c=c1)(E9:g2.a=a2)(qn:l1.length=n1)(qo:l2.length=n2)
  (hu:P.underlying t=some (.slice e))(hi:(P.info? e).map (λi=>(i.size,Nat.ble i.bytes 1024,i.zero))=some (T.z,true,some zv))(qp:zv.cells.size=T.z)(hz:Nat.blt 0 T.z=true)
  (hl:V.ln l1+V.ln l2≤137438953472):
  bg P ⟨some d,.call ⟨.builtin .append,#[s,x],#[t,t]⟩,ty,pos,after,none⟩ a w λv w'=>∃g:Gh,v=.slice g.a q.length g.c∧SH M (aD [.own e T l1 g1,.own e2 T l2 g2]) w [.own e T q g,.own e2 T l2 g2] w':=by
 subst E9;have ho:=hS.ow 0 rfl;have hm:=hS.ow 1 rfl;have hd:Dj (gI g1.a) (gI g2.a):=by
  have:=hS.nd;rw[List.pairwise_cons]at this;exact this.1 (.own e2 T l2 g2) (by simp)
 refine(a0i (P:=P) (d:=d) (ty:=ty) (pos:=pos) (after:=after) (g1:=g1) (s2:=g2.s) (l1:=l1) (l2:=l2) q hq H hs hx vX qu qn qo hu hi qp hz ho.ow hm.Oz.zip hl).mono ?_;rintro v w' ⟨g,rfl,hk,lJ,how,Kg⟩;have xq:Kp (aD [.own e T l1 g1,.own e2 T l2 g2]) w w':=hk.wide (by intro b hb;simp only[aD,aB.own,List.mem_append];exact .inl hb);have lo:∀b∈aD [aB.own e T q g,.own e2 T l2 g2],w.heap.size≤b∨b∈aD [.own e T l1 g1,.own e2 T l2 g2]:=by
  intro b hb;simp only[aD,aB.own,List.append_nil,List.mem_append]at hb;rcases hb with hb|hb
  ·rcases lJ with h|h
   ·exact .inr (by simp only[aD,aB.own,List.mem_append];exact .inl (h▸hb))
   ·rw[h]at hb;simp at hb;exact .inl (by omega)
  ·exact .inr (by simp only[aD,aB.own,List.mem_append];exact .inr (.inl hb))
 refine⟨g,rfl,SH.step hS xq ?_ lo ?_⟩
 ·rw[List.pairwise_cons];refine⟨λf hf=>?_,by simp⟩;rw[List.mem_singleton]at hf;subst hf;intro y hy E3;rcases lJ with h|h
  ·exact hd y (h▸hy) E3
  ·have OD:y∈gI g.a:=hy;rw[h]at OD;simp at OD;have:=hm.ow.lt y E3;omega
 ·intro f hf;rcases List.mem_cons.1 hf with rfl|hf
  ·refine⟨how,?_⟩;subst hq;rw[Kg];exact a0j (λi hi=>T.step hS xq lo (ho.bP i hi)) (λi hi=>T.step hS xq lo (hm.bP i hi))
  ·rw[List.mem_singleton]at hf;subst hf;exact⟨hm.ow.kp hk (λb hb zZ=>hd b zZ hb),λi hi=>T.step hS xq lo (hm.bP i hi)⟩
end
def gf{α:Type}(l:List α)(i j:Int):List α:=(l.drop i.toNat).take (j.toNat-i.toNat)
theorem yI{α:Type}(l:List α){i j:Int}(h:0≤i∧i≤j∧j≤ln l):(gf l i j).length=j.toNat-i.toNat:=by
 unfold ln at h;simp only[gf,List.length_take,List.length_drop];omega
section
variable {P:Program} {a:Act} {w:World} {n:Nat} {l:SF} {M:Av}
theorem aM.sub{α:Type}{T:Ty α}{q:List α}{g:Gh}(hs:aM T M w q g){i j:Int}(dP:0≤i∧i≤j∧j≤ln q):
  aM T M w (gf q i j) (.mk (if g.c=i.toNat then g.a else g.a.map (·.add (i.toNat*T.z))) (g.c-i.toNat) (λk=>g.s (i.toNat+k))):=by
 have hj:j.toNat≤q.length:=by unfold ln at dP;omega
 have hc:=hs.1.cp;rcases Nat.eq_zero_or_pos (gf q i j).length with h0|h0
 ·have:=List.eq_nil_of_length_eq_zero h0;rw[this];exact aM.nil
 ·rw[yI q dP]at h0;have hl:0<q.length:=by omega
  have jn:=hs.1.ok hl;unfold eg at jn;have hQ:¬g.c=i.toNat:=by omega
  have ea:(if g.c=i.toNat then g.a else g.a.map (·.add (i.toNat*T.z)))=some ⟨ab g.a,ao g.a+i.toNat*T.z,none⟩:=by
   rw[if_neg hQ,jn];simp[Addr.add_zero',ab,ao]
  rw[ea];refine⟨⟨λ_=>rfl,λ_=>hs.1.lt hl,λ_=>hs.1.av hl,λk hk m v hv=>?_,?_⟩,λk hk=>?_⟩
  ·rw[yI q dP]at hk;have A1:i.toNat+k<q.length:=by omega
   have hg:(gf q i j)[k]'(by rw[yI q dP];exact hk)=q[i.toNat+k]:=by simp[gf]
   rw[hg]at hv;have:=hs.1.get (i.toNat+k) A1 m v hv;show w.cell? ⟨ab g.a,ao g.a+i.toNat*T.z+k*T.z+m,none⟩=some v;rw[Nat.add_mul,←Nat.add_assoc]at this;exact this
  ·rw[yI q dP];show j.toNat-i.toNat≤g.c-i.toNat;omega
  ·rw[yI q dP]at hk;have A1:i.toNat+k<q.length:=by omega
   have hg:(gf q i j)[k]'(by rw[yI q dP];exact hk)=q[i.toNat+k]:=by simp[gf]
   rw[hg];exact hs.2 _ A1
theorem yJ{α:Type}{T:Ty α}{d:Nat}{t E ty:TypeId}{x:Operand}{lo hi:Option Operand}{pos:String}{after:Array Edge}{g:Gh}{q:List α}{n0 c0:Nat}{a0:Option Addr}{L:List aB}(i j:Int)(tl lI:Option Value)(H:aj D n l a)(hS:S0 M L w)(hs:aM T (ep M L) w q g)
  (hx:ev l [] x=some (.slice a0 n0 c0))(ha:g.a=a0)(hc:g.c=c0)(hn:q.length=n0)(xl:qk l [] lo=some tl)(DV:qk l [] hi=some lI)
  (h1:(tl=none∧i=0)∨∃k,tl=some (.int k i))(h2:(lI=none∧j=ln q)∨∃k,lI=some (.int k j))
  (hu:P.underlying t=some (.slice E))(hz:(P.info? E).map (·.size)=some T.z)(dP:0≤i∧i≤j∧j≤ln q):
  bg P ⟨some d,.slice t x lo hi none,ty,pos,after,none⟩ a w λv w'=>∃g':Gh,v=.slice g'.a (gf q i j).length g'.c∧SH M (aD L) w (.im T (gf q i j) g'::L) w':=by
 subst ha hc hn;have Ko:∀(y:Option Operand) v,qk l [] y=some v→y.map a.eval=v:=by
  intro y v hy;cases y with
  |none=>simp only[qk,Option.some.injEq]at hy;subst hy;rfl
  |some z=>
   simp only[qk]at hy;split at hy
   ·rename_i u hu;simp only[Option.some.injEq]at hy;subst hy;simp[H.ev (fw a) hu]
   ·cases hy
 have hj:j.toNat≤q.length:=by unfold ln at dP;omega
 have hlc:=hs.1.cp;have lH:(sizeOf E).run P w=.ok T.z w:=ot hz;refine bg.pr (v:=.slice (if g.c=i.toNat then g.a else g.a.map (·.add (i.toNat*T.z))) (j.toNat-i.toNat) (g.c-i.toNat)) (w':=w) ?_ ⟨.mk (if g.c=i.toNat then g.a else g.a.map (·.add (i.toNat*T.z))) (g.c-i.toNat) (λk=>g.s (i.toNat+k)),?_,hS.eF (hs.sub dP)⟩
 ·have hb:(Instr.sliceBounds true q.length g.c tl lI none).run P w=.ok (i.toNat,j.toNat,g.c) w:=by
   have q1:i.toNat≤j.toNat:=by omega
   have q2:j.toNat≤g.c:=by omega
   have q0:=dP.1;have q5:(j:Int)≤(g.c:Int):=by omega
   have q6:0≤j:=by omega
   have q7:=dP.2.1;rcases h2 with⟨rfl,rfl⟩|⟨k',rfl⟩<;>rcases h1 with⟨rfl,rfl⟩|⟨k,rfl⟩
   ·simp[Instr.sliceBounds,ln]
   ·have:i≤(q.length:Int):=dP.2.1;simp[Instr.sliceBounds,Instr.sliceBound,asIntOf,dP.1,this,ln]
   ·simp[Instr.sliceBounds,Instr.sliceBound,asIntOf,q5,q6]
   ·have q8:i≤max j 0:=by omega
    simp[Instr.sliceBounds,Instr.sliceBound,asIntOf,q5,q6,q0,q8]
  simp only[execOp,H.ev (fw a) hx,Instr.sliceAt,Sem.run_bind,run_underlying hu,Result.andThen_ok,Ko _ _ xl,Ko _ _ DV,Option.map_none,Instr.slice,hb,lH,Sem.run_pure]
 ·rw[yI q dP];rfl
end
theorem Tb{P:Program}{w:World}{s t E:TypeId}{l:List Int}{g:Gh}{M:Av}(hs:P.underlying s=some (.slice E))(ht:P.underlying t=some .string)(hE:P.underlying E=some (.int .u8))(h:aM (tI .u8) M w l g):
  ∀w',Below w.heap.size w w'→(convert s t (.slice g.a l.length g.c)).run P w'=.ok (.string ⟨⟨iL l⟩⟩) w':=
 a08 hs ht hE ⟨h.1.ok,h.1.lt,λi hi j v hv=>h.1.get i hi j v hv⟩
section
variable {P:Program} {a:Act} {w:World} {n:Nat} {l:SF} {M:Av}
theorem Kq{d:Nat}{s t:TypeId}{E:TypeId}{x:Operand}{ty:TypeId}{pos:String}{after:Array Edge}{str:List UInt8}(H:aj D n l a)(hS:S0 M [] w)
  (hx:ev l [] x=some (.string ⟨⟨str⟩⟩))(hs:P.underlying s=some .string)(ht:P.underlying t=some (.slice E))(hE:P.underlying E=some (.int .u8)):
  bg P ⟨some d,.convert s t x,ty,pos,after,none⟩ a w λv w'=>∃(b c:Nat),v=.slice (some ⟨b,0,none⟩) (bO str).length c∧(bO str).length≤c∧SH M (aD []) w [.row .u8 b (bO str) (V.ln (bO str))] w':=by
 have lH:(ByteArray.mk ⟨str⟩).size=str.length:=rfl;have hq:∀n e,(Question.appendCap n 0 e).forced=false:=λ_ _=>rfl;obtain⟨cap,w1,Tc,hw1,a6W⟩:∃cap w1,(choose (.appendCap str.length 0 E)).run P w=.ok cap w1∧w1={w with drawn:=w.drawn+1}∧str.length≤cap:=⟨_,_,by rw[run_choose];simp[hq];rfl,rfl,Nat.le_add_right _ _⟩;have a6X:(bO str).length≤cap:=by simpa[bO]using a6W
 let cs:List Value:=(bO str).map (Value.int .u8)++List.replicate (cap-str.length) (.int .u8 0)
 let w2:World:=w1.alloc (.cells ⟨cs⟩ E)
 have hn:=DZ w1 cs E;have GU:Below w.heap.size w w1:=by rw[hw1];exact⟨rfl,rfl,rfl,Nat.le_refl _,λ_ _=>rfl⟩
 have alG:w1.heap.size=w.heap.size:=by rw[hw1]
 have yC:((ByteArray.mk ⟨str⟩).data.map λb=>Value.int .u8 (b.toNat:Int))++Array.replicate (cap-str.length) (.int .u8 0)=⟨cs⟩:=by
  apply Array.ext';simp[cs,bO,List.map_map,Function.comp_def]
 obtain⟨T,hT⟩:=hn.2.get;have a6Y:w2.shape? w1.heap.size=some (T,cs.length):=by
  simp only[World.shape?,w2,hT];rfl
 let w3:World:=w2.freeze ⟨w1.heap.size,cs.length,none⟩ 1
 have a6Z:(convert s t (.string ⟨⟨str⟩⟩)).run P w=.ok (.slice (some ⟨w1.heap.size,0,none⟩) str.length cap) w3:=by
  simp only[convert,Sem.run_bind,run_underlying hs,run_underlying ht,run_underlying hE,Result.andThen_ok,Conv.stringToBytes,lH,Tc,yC];simp[newRow,markStringish,a6Y,w3,w2]
 have Kr:w3.heap[w1.heap.size]?=some (.cells ⟨cs⟩ T (cs.length,cs.length+1)):=by
  simp only[w3,World.freeze,Nat.one_ne_zero,if_false,Array.getElem?_modify,if_true,w2,hT];simp
 have Td:Kp [] w w3:=by
  refine⟨?_,?_,?_,?_,?_⟩
  ·exact(hn.1.os).trans GU.os
  ·exact(hn.1.tape).trans GU.tape
  ·exact(hn.1.output).trans GU.output
  ·have:=hn.1.size;simp only[w3,World.freeze,Nat.one_ne_zero,if_false,Array.size_modify,w2];omega
  ·intro q hq' _;have hQ:q≠w1.heap.size:=by omega
   simp only[w3,World.freeze,Nat.one_ne_zero,if_false,Array.getElem?_modify,if_neg (Ne.symm hQ),w2];exact(hn.1.block q (by omega) (by simp)).trans (GU.block q hq')
 have hlen:(bO str).length=str.length:=by simp[bO]
 refine bg.pr (v:=.slice (some ⟨w1.heap.size,0,none⟩) (bO str).length cap) (w':=w3) ?_ ⟨w1.heap.size,cap,rfl,a6X,SH.step hS Td (by simp) (by simp[aD,aB.row];omega) ?_⟩
 ·rw[hlen];simp[execOp,H.ev (fw a) hx,a6Z]
 ·intro e he;rw[List.mem_singleton]at he;subst he;refine⟨⟨?_,T,_,_,Kr,.inr ?_⟩,rfl⟩
  ·rcases Nat.lt_or_ge w1.heap.size w3.heap.size with h|h
   ·exact h
   ·rw[Array.getElem?_eq_none h]at Kr;cases Kr
  ·show(bO str).length≤cs.length;simp[cs]
end
theorem a0k{α:Type}(T:Ty α)(x:α)(g:Nat→Gh):∀(n i:Nat),(dt (List.replicate n x) (λ_=>g) i).map (gn T)=List.replicate n (T.enc x g)
 |0,_=>rfl
 |n+1,i=>by simp only[List.replicate_succ,dt,List.map_cons,a0k T x g n (i+1)];rfl
theorem a0l{l:List Value}{z:Nat}(hz:l.length=z)(h0:0<z):∀(n q:Nat),q<n*z→(List.replicate n l).flatten[q]?=l[q%z]?
 |0,q,h=>by omega
 |n+1,q,h=>by
  rw[List.replicate_succ,List.flatten_cons];by_cases hq:q<z
  ·rw[List.getElem?_append_left (by omega),Nat.mod_eq_of_lt hq]
  ·rw[List.getElem?_append_right (by omega),hz,a0l hz h0 n (q-z) (by rw[Nat.add_mul,Nat.one_mul]at h;omega),←Nat.mod_eq_sub_mod (by omega)]
theorem a71{zc:Array Value}{z n c:Nat}(hz:zc.size=z)(h0:0<z)(hn:n≤c):(madeCells zc (c*z)).toList.take (n*z)=(List.replicate n zc.toList).flatten:=by
 have hl:(List.replicate n zc.toList).flatten.length=n*z:=by simp[hz]
 apply List.ext_getElem?;intro q;by_cases hq:q<n*z
 ·rw[a0l (by simpa using hz) h0 n q hq,List.getElem?_take_of_lt hq];have hqc:q<c*z:=Nat.lt_of_lt_of_le hq (Nat.mul_le_mul_right z hn);have hm:q%z<zc.size:=by rw[hz];exact Nat.mod_lt _ h0
  simp only[madeCells,Array.toList_map,Array.toList_range,List.getElem?_map,List.getElem?_range,hqc,Option.map_some,hz];rw[Array.getElem?_toList,getElem!_pos zc (q%z) hm,Array.getElem?_eq_getElem hm]
 ·rw[List.getElem?_eq_none (by simp;omega),List.getElem?_eq_none (by omega)]
section
variable {P:Program} {a:Act} {w:World} {n:Nat} {l:SF} {M:Av}
theorem a0m{α:Type}{T:Ty α}{d:Nat}{t E:TypeId}{lo co:Operand}{zv:Value}{ty:TypeId}{pos:String}{after:Array Edge}{kl kc:IntKind}{len cap:Int}(x0:α)(H:aj D n l a)(hS:S0 M [] w)
  (hl:ev l [] lo=some (.int kl len))(hc:ev l [] co=some (.int kc cap))(hu:P.underlying t=some (.slice E))(hi:(P.info? E).map (λi=>(i.size,Nat.ble i.bytes 1024,i.zero))=some (T.z,true,some zv))
  (hz:Nat.blt 0 T.z=true)(qZ:T.enc x0 (λ_=>.nil)=zv.cells.toList)(jo:∀M w,T.bP M w x0 (λ_=>.nil))(hb:0≤len∧len≤cap∧cap≤137438953472):
  bg P ⟨some d,.makeSlice t lo co,ty,pos,after,none⟩ a w λv w'=>∃g:Gh,v=.slice g.a (List.replicate len.toNat x0).length g.c∧SH M (aD []) w [.own E T (List.replicate len.toNat x0) g] w':=by
 have BC:0<T.z:=by simpa[Nat.blt,Nat.lt_iff_add_one_le]using hz
 cases n7:P.info? E with
 |none=>simp[n7]at hi
 |some inf=>
  simp only[n7,Option.map_some,Option.some.injEq,Prod.mk.injEq]at hi;obtain⟨h1,h2,h3⟩:=hi;have h2:inf.bytes≤1024:=by simpa using h2
  have hby:(inf.bytes:Int)*cap≤281474976710656:=by
   have:(inf.bytes:Int)*cap≤1024*137438953472:=Int.mul_le_mul (by omega) hb.2.2 (by omega) (by omega);omega
  have hr:=run_make (P:=P) w t E inf zv hu n7 h3 kl kc len cap hb.1 hb.2.1 hby (by omega);have qp:zv.cells.size=T.z:=by
   have:=T.len x0 (λ_=>.nil);rw[qZ]at this;simpa using this
  have hN:=DZ w (madeCells zv.cells (cap.toNat*inf.size)).toList E;have a73:w.alloc (.cells (madeCells zv.cells (cap.toNat*inf.size)) E)=w.alloc (.cells ⟨(madeCells zv.cells (cap.toNat*inf.size)).toList⟩ E):=rfl;rw[a73]at hr;refine bg.pr (v:=.slice (some ⟨w.heap.size,0,none⟩) len.toNat cap.toNat) (w':=w.alloc (.cells ⟨(madeCells zv.cells (cap.toNat*inf.size)).toList⟩ E)) ?_ ⟨.mk (some ⟨w.heap.size,0,none⟩) cap.toNat (λ_ _=>.nil),?_,SH.step hS hN.1 (by simp) (by simp[aD,aB.own,Gh.a,gI]) ?_⟩
  ·simp[execOp,H.ev (fw a) hl,H.ev (fw a) hc,hr]
  ·simp[Gh.a,Gh.c]
  ·intro e he;rw[List.mem_singleton]at he;subst he;refine⟨⟨⟨?_,.inr ⟨w.heap.size,cap.toNat,madeCells zv.cells (cap.toNat*inf.size),?_,Nat.zero_le _,?_,?_,?_,?_,?_⟩⟩,?_,?_⟩,λi hi=>?_⟩
   ·rw[zQ (enc:=gn T) (λp=>T.len p.1 p.2),gJ]
   ·simp[gJ,Gh.a,Gh.c]
   ·show(w.heap.push _)[w.heap.size]?=_;simp
   ·rw[gJ];simp;omega
   ·unfold maxLen;omega
   ·simp[madeCells,h1]
   ·rw[gJ,List.length_replicate,h1];have e:(dt (List.replicate len.toNat x0) (Gh.mk (some ⟨w.heap.size,0,none⟩) cap.toNat (λ_ _=>.nil)).s 0).map (gn T)=List.replicate len.toNat zv.cells.toList:=by
     rw[show(Gh.mk (some ⟨w.heap.size,0,none⟩) cap.toNat (λ_ _=>.nil)).s=λ_=>(λ_=>Gh.nil)from rfl,a0k,qZ]
    rw[e];exact a71 qp BC (by omega)
   ·intro y hy;simp only[Gh.a,gI,List.mem_singleton]at hy;subst hy;exact hN.2.lt
   ·rw[gJ];simp;omega
   ·rw[List.getElem_replicate];exact jo _ _
end
theorem Te{P:Program}{b off:Nat}{T:TypeId}:∀(vs:List Value)(j:Nat)(w:World)(cs:List Value),qY vs=true→w.heap[b]?=some (.cells ⟨cs⟩ T (0,0))→off+j+vs.length≤cs.length→
  ∃w',(storeCells ⟨b,off,none⟩ vs j).run P w=.ok () w'∧Kp [b] w w'∧w'.heap[b]?=some (.cells ⟨kZ cs (off+j) vs⟩ T (0,0))
 |[],j,w,cs,_,hb,_=>⟨w,by simp[storeCells],Kp.refl _ _,by simpa[kZ]using hb⟩
 |v::r,j,w,cs,ho,hT,hl=>by
  simp only[qY,Bool.and_eq_true]at ho;have hj:off+j<cs.length:=by simp at hl;omega
  have hc:w.cell? ⟨b,off+j,none⟩=some cs[off+j]:=by
   simp only[World.cell?,hT,Option.isSome_none,Bool.false_eq_true,if_false,List.getElem?_toArray];exact List.getElem?_eq_getElem hj
  have hf:w.frozen? ⟨b,off+j,none⟩=false:=by simp[World.frozen?,hT]
  have kK:(store ⟨b,off+j,none⟩ v).run P w=.ok () (w.setCell ⟨b,off+j,none⟩ v):=by
   rw[run_store P w _ v .plain ho.1,hc];simp[hf]
  obtain⟨w',h1,h2,h3⟩:=Te (P:=P) (off:=off) r (j+1) _ _ ho.2 (SU (off:=off+j) (v:=v) hT) (by simp only[List.length_cons]at hl;simp only[List.length_set];omega);refine⟨w',?_,(Kc w ⟨b,off+j,none⟩ v).trans h2 (by simp),h3⟩;simp only[storeCells,Sem.run_bind,Addr.add_zero',kK,Result.andThen_ok];exact h1
def cj{α:Type}(l:List α)(i:Int)(x:α):List α:=l.set i.toNat x
theorem uu{α:Type}(l:List α)(i:Int)(x:α):(cj l i x).length=l.length:=by simp[cj]
theorem a0n:∀(vs p q:List Value)(off:Nat),kZ (p++q) (p.length+off) vs=p++kZ q off vs
 |[],_,_,_=>rfl
 |v::r,p,q,off=>by
  simp only[kZ];rw[List.set_append_right _ _ (by omega),Nat.add_sub_cancel_left,Nat.add_assoc];exact a0n r p _ (off+1)
theorem a0o:∀(vs q r:List Value)(off:Nat),off+vs.length≤q.length→kZ (q++r) off vs=kZ q off vs++r
 |[],_,_,_,_=>rfl
 |v::t,q,r,off,h=>by
  simp only[List.length_cons]at h;simp only[kZ];rw[List.set_append_left _ _ (by omega)];exact a0o t _ r (off+1) (by simp;omega)
theorem Tf:∀(vs cs:List Value)(off:Nat),(kZ cs off vs).length=cs.length
 |[],_,_=>rfl
 |v::r,cs,off=>by simp only[kZ];rw[Tf r];simp
theorem Tg:∀(vs cs:List Value)(off k:Nat),off+vs.length≤k→(kZ cs off vs).take k=kZ (cs.take k) off vs
 |[],_,_,_,_=>rfl
 |v::r,cs,off,k,h=>by
  simp only[List.length_cons]at h;simp only[kZ];rw[Tg r _ (off+1) k (by omega),List.take_set]
theorem a0p{α:Type}{T:Ty α}{l:List α}{s:Nat→Nat→Gh}{x:α}{gx:Nat→Gh}{i off z:Nat}{vs:List Value}(hz:∀x g,(T.enc x g).length=z)(hi:i<l.length)(he:kZ (T.enc l[i] (s i)) off vs=T.enc x gx)(hv:off+vs.length≤z):
  kZ ((dt l s 0).map (gn T)).flatten (i*z+off) vs=((dt (l.set i x) (λk=>if k=i then gx else s k) 0).map (gn T)).flatten:=by
 have e1:l=l.take i++l[i]::l.drop (i+1):=by rw[List.getElem_cons_drop,List.take_append_drop]
 have e2:l.set i x=l.take i++x::l.drop (i+1):=List.set_eq_take_append_cons_drop ..▸by simp[hi]
 have kL:(l.take i).length=i:=by simp;omega
 rw[e2]
 conv=>lhs;rw[e1]
 rw[OH,OH];simp only[dt,kL,Nat.zero_add,List.map_append,List.map_cons,List.flatten_append,List.flatten_cons];have vY:((dt (l.take i) s 0).map (gn T)).flatten.length=i*z:=by
  rw[zQ (enc:=gn T) (z:=z) (λp=>hz p.1 p.2),gJ,kL]
 rw[←vY,a0n,a0o _ _ _ _ (by simp only[gn];rw[hz];exact hv)];have ea:dt (l.take i) (λk=>if k=i then gx else s k) 0=dt (l.take i) s 0:=OG _ _ _ _ λq hq=>by
  rw[kL]at hq;rw[Nat.zero_add,if_neg (by omega)]
 have eb:dt (l.drop (i+1)) (λk=>if k=i then gx else s k) (i+1)=dt (l.drop (i+1)) s (i+1):=OG _ _ _ _ λq _=>by rw[if_neg (by omega)]
 rw[ea,eb];simp only[gn,if_true];rw[he]
section
variable {P:Program} {a:Act} {w:World} {n:Nat} {l:SF} {M:Av}
theorem A2{α:Type}[Inhabited α]{T:Ty α}{t E ty:TypeId}{x y:Operand}{pos:String}{after:Array Edge}{g:Gh}{q:List α}{L:List aB}{ix:Int}{off bb oo:Nat}{v:Value}(x':α)(gx:Nat→Gh)(H:aj D n l a)(hS:S0 M (.own E T q g::L) w)
  (hx:ev l [] x=some (.pointer (some ⟨bb,oo,none⟩)))(hbb:ab g.a=bb)(px:ao g.a+ix.toNat*T.z+off=oo)(hy:ev l [] y=some v)
  (hz:(P.info? t).map (·.size)=some v.cells.toList.length)(h1:qY v.cells.toList=true)(hl:Nat.ble (off+v.cells.toList.length) T.z=true)(Ha:0≤ix∧ix<ln q)
  (he:kZ (T.enc (gi q ix) (g.s ix.toNat)) off v.cells.toList=T.enc x' gx)(jo:T.bP (ep M (.own E T q g::L)) w x' gx)(_hL:aD L=[]):
  bg P ⟨none,.store t x y,ty,pos,after,none⟩ a w λ_ w'=>∃s:Nat→Nat→Gh,SH M (aD (.own E T q g::L)) w [.own E T (cj q ix x') (.mk g.a g.c s)] w':=by
 subst hbb px;have ho:=hS.ow 0 rfl;have hi:ix.toNat<q.length:=by unfold ln at Ha;omega
 have hg:gi q ix=q[ix.toNat]:=by simp[gi,List.getD_eq_getElem?_getD,List.getElem?_eq_getElem hi]
 rw[hg]at he;have hlz:off+v.cells.toList.length≤T.z:=by simpa using hl
 rcases ho.ow.row.2 with⟨h0,Ks⟩|⟨b,cap,r6,hv,_,hw,qu,Th,Kt,Hc⟩
 ·rw[gJ]at Ks;omega
 ·simp only[Value.slice.injEq]at hv;obtain⟨yK,_,OL⟩:=hv;rw[gJ]at qu Hc;have lW:ab g.a=b:=by rw[yK];rfl
  have He:ao g.a=0:=by rw[yK];rfl
  have Ti:b<w.heap.size:=by
   rcases Nat.lt_or_ge b w.heap.size with hb|hb
   ·exact hb
   ·rw[Array.getElem?_eq_none hb]at hw;cases hw
  have hle:ix.toNat*T.z+off+v.cells.toList.length≤q.length*T.z:=by
   have:(ix.toNat+1)*T.z≤q.length*T.z:=Nat.mul_le_mul_right _ hi;rw[Nat.add_mul,Nat.one_mul]at this;omega
  have alH:q.length*T.z≤r6.toList.length:=by
   have:q.length*T.z≤cap*T.z:=Nat.mul_le_mul_right _ qu;simpa[Kt]using this
  obtain⟨w',h2,h3,Eb⟩:=Te (P:=P) (off:=ix.toNat*T.z+off) v.cells.toList 0 w r6.toList h1 (by simpa using hw) (by omega);rw[Nat.add_zero]at Eb;have lH:(sizeOf t).run P w=.ok v.cells.size w:=ot (by simpa using hz);have E1:Kp (aD (.own E T q g::L)) w w':=h3.wide (by intro y hy;simp only[List.mem_singleton]at hy;subst hy;simp only[aD,List.mem_append];left;simp only[aB.own,yK,gI,List.mem_singleton]);have lo:∀s,∀y∈aD [aB.own E T (cj q ix x') (.mk g.a g.c s)],w.heap.size≤y∨y∈aD (.own E T q g::L):=λs y hy=>.inr (by
   simp only[aD,List.append_nil]at hy;simp only[aD,List.mem_append];exact .inl hy)
  refine bg.skip (w':=w') ?_ rfl λ_=>⟨λk=>if k=ix.toNat then gx else g.s k,SH.step hS E1 (by simp) (lo _) ?_⟩
  ·rw[lW,He,Nat.zero_add]at hx;simp[execOp,H.ev (fw a) hx,H.ev (fw a) hy,Instr.storeAt,Instr.sureAddr,storeVar,lH,h2]
  ·intro e Hf;rw[List.mem_singleton]at Hf;subst Hf;have zW:=a0p (T:=T) (l:=q) (s:=g.s) (x:=x') (gx:=gx) (off:=off) (vs:=v.cells.toList) T.len hi he hlz;refine⟨⟨⟨?_,.inr ⟨b,cap,⟨kZ r6.toList (ix.toNat*T.z+off) v.cells.toList⟩,?_,Nat.zero_le _,by simpa using Eb,?_,Th,?_,?_⟩⟩,?_,?_⟩,λk hk=>?_⟩
   ·rw[zQ (enc:=gn T) (λp=>T.len p.1 p.2),gJ]
   ·show Value.slice g.a _ g.c=_;rw[yK,OL]
   ·rw[gJ];simp[cj];exact qu
   ·simp[Tf,Kt]
   ·rw[gJ];show(kZ r6.toList _ _).take ((cj q ix x').length*T.z)=_;rw[uu,Tg _ _ _ _ hle,Hc,zW];rfl
   ·intro y hy;have:y∈gI g.a:=hy;rw[yK]at this;simp[gI]at this;subst this;exact Nat.lt_of_lt_of_le Ti h3.size
   ·rw[gJ,uu];have:=ho.ow.ln;rw[gJ]at this;exact this
   ·have A1:k<q.length:=by rw[uu]at hk;exact hk
    by_cases e:k=ix.toNat
    ·subst e;have e1:(cj q ix x')[ix.toNat]=x':=by simp[cj]
     show T.bP _ _ _ (if ix.toNat=ix.toNat then gx else g.s ix.toNat);rw[e1,if_pos rfl];exact T.step hS E1 (lo _) jo
    ·have e1:(cj q ix x')[k]=q[k]:=by simp[cj,List.getElem_set_ne (λh=>e h.symm)]
     show T.bP _ _ _ (if k=ix.toNat then gx else g.s k);rw[e1,if_neg e];exact T.step hS E1 (lo _) (ho.bP k A1)
end
section
variable {P:Program} {Q:Exit→Act→World→Prop} {a:Act} {w:World} {n:Nat} {l:SF} {all:List Oper}
theorem eZ{i d:Nat}{o:Oper}{K:Value→World→Prop}(ks:List Nat)(lk:SF)(H:aj D n l a)(ho:all[i]?=some o)(hg:o.guard=none)(rS:o.dst=some d)(hd:Nat.blt d n=true)(hs:bg P o a w K)
  (hk:∀v,aK (oX l d [] v) ks=some ((d,[],v)::lk))
  (hK:∀a' w' v,aj D n ((d,[],v)::lk) a'→K v w'→wpList P all.toArray Q (all.drop (i+1)) a' w'):wpList P all.toArray Q (all.drop i) a w:=
 a06 ho hg λN hN=>hs Q N λv w' hv=>by
  rw[rS];exact hN _ _ (hK _ _ v ((aj.set (H:=H) hd).aK (hk v)) hv)
theorem vZ{i:Nat}{o:Oper}{K:Value→World→Prop}(ks:List Nat)(lk:SF)(H:aj D n l a)(ho:all[i]?=some o)(hg:o.guard=none)(rS:o.dst=none)(hs:bg P o a w K)
  (hk:aK l ks=some lk)
  (hK:∀a' w',aj D n lk a'→(∃v,K v w')→wpList P all.toArray Q (all.drop (i+1)) a' w'):wpList P all.toArray Q (all.drop i) a w:=
 a06 ho hg λN hN=>hs Q N λv w' hv=>by
  rw[rS];exact hN _ _ (hK _ _ (H.aK hk) ⟨v,hv⟩)
end
def BE(l:SF):iB→Bool
 |[]=>true
 |p::r=>BE l r&&match gw l p.1 with
  |some (C,.bool b)=>uk C r&&b==p.2
  |_=>false
theorem Tj{n:Nat}{l:SF}{a:Act}(H:aj D n l a):∀{C:iB},BE l C=true→kY a C
 |[],_=>fw a
 |p::r,h=>by
  unfold BE at h;rw[Bool.and_eq_true]at h;have ih:=Tj H h.1;have h2:=h.2;split at h2
  ·rename_i C b he;rw[Bool.and_eq_true]at h2;have hv:=(H.2.2 _ (ul he)).1 (K4 h2.1 ih);have hb:b=p.2:=by simpa using h2.2
   intro q hq;rcases List.mem_cons.1 hq with rfl|hq
   ·rw[←hb];exact hv
   ·exact ih q hq
  ·cases h2
theorem a74{n:Nat}{l:SF}{a:Act}(H:aj D n l a):∀(k:Nat){C:iB},(match C.drop k with
  |p::r=>BE l r&&(match gw l p.1 with
   |some (C',.bool b)=>uk C' r&&!(b==p.2)
   |_=>false)
  |[]=>false)=true→¬kY a C:=by
 intro k C h jn;split at h
 ·rename_i p r hd;rw[Bool.and_eq_true]at h;have h2:=h.2;split at h2
  ·rename_i C' b he;rw[Bool.and_eq_true]at h2;have hv:=(H.2.2 _ (ul he)).1 (K4 h2.1 (Tj H h.1));have hp:p∈C:=List.mem_of_mem_drop (hd▸List.mem_cons_self);have:=jn p hp;dsimp only at hv;rw[hv]at this;simp only[Option.some.injEq,Value.bool.injEq]at this;rw[this]at h2;simp at h2
  ·cases h2
 ·cases h
def tt(l:SF):List (Nat×Nat)→Option SF
 |[]=>some []
 |(t,0)::r=>match gw l t,tt l r with
  |some ([],v),some l'=>some ((t,[],v)::l')
  |_,_=>none
 |(t,1)::r=>match gw l t,tt l r with
  |some (C,v),some l'=>cond (BE l C) (some ((t,[],v)::l')) none
  |_,_=>none
 |(t,k+2)::r=>match gw l t,tt l r with
  |some (C,_),some l'=>cond (match C.drop k with
   |p::r=>BE l r&&(match gw l p.1 with
    |some (C',.bool b)=>uk C' r&&!(b==p.2)
    |_=>false)
   |[]=>false) (some ((t,[],undef)::l')) none
  |_,_=>none
theorem aj.tt{n:Nat}{l:SF}{a:Act}(H:aj D n l a):∀{ks:List (Nat×Nat)}{l':SF},V.tt l ks=some l'→aj D n l' a
 |[],l',h=>by simp[V.tt]at h;subst h;exact⟨H.1,H.2.1,by simp⟩
 |(t,0)::r,l',h=>by
  unfold V.tt at h;split at h
  ·rename_i v l2 h1 h2;cases h;exact(H.tt h2).add ((H.2.2 _ (ul h1)).1 (fw a))
  ·cases h
 |(t,1)::r,l',h=>by
  unfold V.tt at h;split at h
  ·rename_i C v l2 h1 h2;cases hr:BE l C with
   |false=>rw[hr]at h;cases h
   |true=>
    rw[hr]at h;simp only[cond_true,Option.some.injEq]at h;subst h;exact(H.tt h2).add ((H.2.2 _ (ul h1)).1 (Tj H hr))
  ·cases h
 |(t,k+2)::r,l',h=>by
  unfold V.tt at h;split at h
  ·rename_i C v l2 h1 h2;cases hr:(match C.drop k with
    |p::r=>BE l r&&(match gw l p.1 with
     |some (C',.bool b)=>uk C' r&&!(b==p.2)
     |_=>false)
    |[]=>false)with
   |false=>rw[hr]at h;cases h
   |true=>
    rw[hr]at h;simp only[cond_true,Option.some.injEq]at h;subst h;exact(H.tt h2).add ((H.2.2 _ (ul h1)).2 (a74 H k hr))
  ·cases h
section
variable {P:Program} {Q:Exit→Act→World→Prop} {a:Act} {w:World} {n:Nat} {l:SF} {all:List Oper}
def a0q(P:Program)(n:Nat)(all:List Oper)(i j:Nat)(os:List Value)(l:SF)(ks:List (Nat×Nat)):Option (SF×List Ob):=
 match rQ P n all (all.drop i) (j-i) os l with
 |some (l',fG)=>match tt l' ks with
  |some lk=>some (lk,fG)
  |none=>none
 |none=>none
theorem a0r(i j:Nat)(os:List Value)(ks:List (Nat×Nat))(lk:SF)(fG:List Ob)(H:aj D n l a)(dP:Nat.ble i j=true)(he:a0q P n all i j os l ks=some (lk,fG))(eP:tm fG w)
  (hK:∀a' w',aj D n lk a'→Below w.heap.size w w'→wpList P all.toArray Q (all.drop j) a' w'):wpList P all.toArray Q (all.drop i) a w:=by
 unfold a0q at he;split at he
 ·rename_i l' a02 h1;split at he
  ·rename_i lk' h2;simp only[Option.some.injEq,Prod.mk.injEq]at he;obtain⟨rfl,rfl⟩:=he;refine Ka (j-i) (all.drop i) os l l' _ a w w (Below.rfl' w) h1 eP H ?_;intro a' w' H' hb;have SW:i≤j:=by simpa using dP
   rw[List.drop_drop,Nat.add_sub_cancel' SW];exact hK a' w' (H'.tt h2) hb
  ·cases he
 ·cases he
theorem a0s{s:Nat}{j:Nat}{b:Bool}(H:aj D n l a)(hj:(all[j]?).bind (·.dst)=some s)(hs:gw l s=some ([],.bool b)):yielded all.toArray a.tmps j=some b:=by
 unfold yielded;rw[show((all.toArray[j]?).bind (·.dst))=some s from by simpa using hj];have:=(H.2.2 _ (ul hs)).1 (fw a);dsimp only at this;simp only[Option.bind_some,this]
theorem a0t{i:Nat}{o:Oper}(ho:all[i]?=some o)(h:wpList P all.toArray Q (o::all.drop (i+1)) a w):wpList P all.toArray Q (all.drop i) a w:=by
 have hl:i<all.length:=(List.getElem?_eq_some_iff.1 ho).1;have he:all[i]=o:=by
  rw[List.getElem?_eq_getElem hl]at ho;exact Option.some.inj ho
 rw[List.drop_eq_getElem_cons hl,he];exact h
theorem a0u{i d j:Nat}{op:Op}{ty:TypeId}{pos:String}{after:Array Edge}{want:Bool}{K:Value→World→Prop}(s:Nat)(ks:List Nat)(lk:SF)(H:aj D n l a)(ho:all[i]?=some ⟨some d,op,ty,pos,after,some (j,want)⟩)
  (hj:(all[j]?).bind (·.dst)=some s)(hg:gw l s=some ([],.bool want))(hd:Nat.blt d n=true)(hs:bg P ⟨some d,op,ty,pos,after,none⟩ a w K)
  (hk:∀v,aK (oX l d [] v) ks=some ((d,[],v)::lk))
  (hK:∀a' w' v,aj D n ((d,[],v)::lk) a'→K v w'→wpList P all.toArray Q (all.drop (i+1)) a' w'):wpList P all.toArray Q (all.drop i) a w:=by
 refine a0t ho ?_;unfold wpList;rw[if_pos (by simp[Region.wanted,a0s H hj hg])];left;exact hs Q _ λv w' hv=>hK _ _ v ((aj.set (H:=H) hd).aK (hk v)) hv
theorem w8{i d j:Nat}{op:Op}{ty:TypeId}{pos:String}{after:Array Edge}{want b:Bool}(s:Nat)(ks:List Nat)(lk:SF)(H:aj D n l a)(ho:all[i]?=some ⟨some d,op,ty,pos,after,some (j,want)⟩)
  (hj:(all[j]?).bind (·.dst)=some s)(hg:gw l s=some ([],.bool b))(hb:(b==want)=false)(hd:Nat.blt d n=true)(hk:aK (oX l d [] undef) ks=some lk)
  (hK:∀a',aj D n lk a'→wpList P all.toArray Q (all.drop (i+1)) a' w):wpList P all.toArray Q (all.drop i) a w:=by
 refine a0t ho ?_;unfold wpList;rw[if_neg (by simp[Region.wanted,a0s H hj hg];intro e;subst e;simp at hb)];exact hK _ ((aj.set (H:=H) hd).aK hk)
end
theorem aj.slot{n:Nat}{l:SF}{a:Act}(H:aj D n l a){t:Nat}{v:Value}(h:gw l t=some ([],v)):a.tmps[t]?=some v:=(H.2.2 _ (ul h)).1 (fw a)
section
variable {P:Program} {N R:eQ} {ES:List (Nat×eQ)} {a:Act} {w:World}
end
end
end Go.V
