/-
 A small program logic over the kit's 'Code.wp': frames by what is known of their slots, pure operations by evaluation, rules for calls, tests, blocks and loops. Nothing here is a statement of this claim.
-/
import Derived.WalkKit
import Derived.WalkLawsBesides
import Derived.Deep.Quiet
import Derived.Laws.BytesArg
import Derived.Laws.StructEq
import Derived.ChangeKeysEq
import Derived.Maps.AppendAt
import Derived.Lib.Bytealg
import Derived.Laws.MakeOwn
import Derived.Scope
import Derived.Lib.AppendStr
namespace Go.V
open Go Go.RowKit
section
abbrev J:=List UInt8
def cD(op:BinOp)(k:IntKind)(x y:Int):Int:=
 k.wrap (match op with
  | .and=>((BitVec.ofInt k.bits x&&&BitVec.ofInt k.bits y).toNat:Int)
  | .or=>((BitVec.ofInt k.bits x|||BitVec.ofInt k.bits y).toNat:Int)
  | .xor=>((BitVec.ofInt k.bits x ^^^ BitVec.ofInt k.bits y).toNat:Int)
  |_=>((BitVec.ofInt k.bits x&&&~~~BitVec.ofInt k.bits y).toNat:Int))
abbrev aa(x:Int):Int:=IntKind.i64.wrap x
abbrev Kv(x:Int):Int:=IntKind.i32.wrap x
abbrev bY(x:Int):Int:=IntKind.u64.wrap x
abbrev rk(x:Int):Int:=IntKind.u32.wrap x
abbrev bj(x:Int):Int:=IntKind.u8.wrap x
def aI(s:List UInt8)(i:Int):Int:=((s.getD i.toNat 0).toNat:Int)
def sub(s:List UInt8)(i j:Int):List UInt8:=(s.drop i.toNat).take (j.toNat-i.toNat)
def ln{α:Type}(l:List α):Int:=(l.length:Int)
abbrev fw:=List (Nat×Bool)
abbrev SF:=List (Nat×fw×Value)
def iB(a:Act)(C:fw):Prop:=∀p∈C,a.tmps[p.1]?=some (.bool p.2)
def ay(D:List Deferred)(n:Nat)(l:SF)(a:Act):Prop:=
 a.defers=D∧a.tmps.size=n∧∀e∈l,(iB a e.2.1→a.tmps[e.1]?=some e.2.2)∧(¬iB a e.2.1→a.tmps[e.1]?=some undef)
abbrev Fr:=ay []
variable {D:List Deferred}
def o4(C G:fw):Bool:=C.all λp=>G.any λq=>Nat.beq p.1 q.1&&p.2==q.2
theorem Gd{a:Act}{C G:fw}(h:o4 C G=true)(hG:iB a G):iB a C:=by
 intro p hp;have:=List.all_eq_true.1 h p hp;obtain⟨q,hq,Ge⟩:=List.any_eq_true.1 this;simp only[Bool.and_eq_true,beq_iff_eq]at Ge;have h1:=Nat.eq_of_beq_eq_true Ge.1;rw[h1,Ge.2];exact hG q hq
def dF:SF→Nat→Option (fw×Value)
 |[],_=>none
 |e::r,t=>cond (Nat.beq e.1 t) (some e.2) (dF r t)
theorem oZ{l:SF}{t:Nat}{x:fw×Value}(h:dF l t=some x):(t,x)∈l:=by
 induction l with
 |nil=>simp[dF]at h
 |cons e r ih=>
  unfold dF at h;cases hb:Nat.beq e.1 t with
  |true=>
   rw[hb]at h;simp only[cond_true,Option.some.injEq]at h;have:=Nat.eq_of_beq_eq_true hb;subst this;subst h;exact List.mem_cons_self
  |false=>
   rw[hb]at h;exact List.mem_cons_of_mem _ (ih h)
def ev(l:SF)(G:fw):Operand→Option Value
 | .tmp t=>match dF l t with
  |some (C,v)=>cond (o4 C G) (some v) none
  |none=>none
 | .const v=>some v
 | .global g=>some (.pointer (some ⟨g,0,none⟩))
 | .func f=>some (.func (.func f) #[] #[])
theorem ay.ev{n:Nat}{l:SF}{a:Act}(H:ay D n l a){G:fw}(hG:iB a G){x:Operand}{v:Value}(h:ev l G x=some v):a.eval x=v:=by
 cases x with
 |tmp t=>
  unfold V.ev at h;cases he:dF l t with
  |none=>simp[he]at h
  |some p=>
   obtain⟨C,u⟩:=p;simp only[he]at h;cases hs:o4 C G with
   |false=>rw[hs]at h;cases h
   |true=>
    rw[hs]at h;simp only[cond_true,Option.some.injEq]at h;subst h;have:=(H.2.2 _ (oZ he)).1 (Gd hs hG);simp only[Act.eval,Array.getD_eq_getD_getElem?,this,Option.getD_some]
 |const c=>simpa[V.ev,Act.eval]using h
 |global g=>simpa[V.ev,Act.eval]using h
 |func f=>simpa[V.ev,Act.eval]using h
def jC(l:SF)(d:Nat)(C:fw)(v:Value):SF:=
 (d,C,v)::l.filter λe=>!(Nat.beq e.1 d)&&e.2.1.all λp=>!(Nat.beq p.1 d)
theorem Dk{a:Act}{d s:Nat}{v:Value}(h:s≠d):(a.put (some d) v).tmps[s]?=a.tmps[s]?:=by
 simp only[Act.put];rw[Array.getElem?_setIfInBounds_ne (λe=>h e.symm)]
theorem VF{a:Act}{C:fw}{d:Nat}{v:Value}(h:(C.all λp=>!(Nat.beq p.1 d))=true):iB (a.put (some d) v) C↔iB a C:=by
 unfold iB;constructor<;>intro hh p hp<;>have h1:=hh p hp<;>have h2:=List.all_eq_true.1 h p hp
 ·rw[Dk]at h1
  ·exact h1
  ·intro e;rw[e]at h2;simp at h2
 ·rw[Dk]
  ·exact h1
  ·intro e;rw[e]at h2;simp at h2
theorem ay.put{n:Nat}{l:SF}{a:Act}(H:ay D n l a){d:Nat}{C:fw}{v u:Value}(hd:Nat.blt d n=true)(hC:(C.all λp=>!(Nat.beq p.1 d))=true)
  (h1:iB a C→u=v)(h2:¬iB a C→u=undef):ay D n (jC l d C v) (a.put (some d) u):=by
 have hd:d<n:=by simpa[Nat.blt,Nat.lt_iff_add_one_le]using hd
 obtain⟨g1,g2,g3⟩:=H;refine⟨g1,by simpa[Act.put]using g2,?_⟩;intro e he;unfold jC at he;rcases List.mem_cons.1 he with rfl|he
 ·have hs:(a.put (some d) u).tmps[d]?=some u:=by simp[Act.put,g2,hd]
  dsimp only;rw[VF hC,hs];exact⟨λh=>by rw[h1 h],λh=>by rw[h2 h]⟩
 ·obtain⟨he,cQ⟩:=List.mem_filter.1 he;simp only[Bool.and_eq_true]at cQ;have hn:e.1≠d:=by
   intro x;rw[x]at cQ;simp at cQ
  rw[VF cQ.2,Dk hn];exact g3 e he
def aV(l:SF):List Nat→Option SF
 |[]=>some []
 |t::r=>match dF l t,aV l r with
  |some ([],v),some l'=>some ((t,[],v)::l')
  |_,_=>none
theorem ay.aV{n:Nat}{l l':SF}{a:Act}{ks:List Nat}(H:ay D n l a)(h:aV l ks=some l'):ay D n l' a:=by
 refine⟨H.1,H.2.1,?_⟩
 induction ks generalizing l' with
 |nil=>simp[V.aV]at h;subst h;simp
 |cons t r ih=>
  unfold V.aV at h;split at h
  ·rename_i v l2 h1 h2;simp only[Option.some.injEq]at h;subst h;intro p hp;rcases List.mem_cons.1 hp with rfl|hp
   ·exact H.2.2 _ (oZ h1)
   ·exact ih h2 p hp
  ·cases h
theorem ay.mono{n:Nat}{l l':SF}{a:Act}(H:ay D n l a)(h:∀e∈l',e∈l):ay D n l' a:=⟨H.1,H.2.1,λe he=>H.2.2 e (h e he)⟩
def cp(l:SF):fw→Prop
 |[]=>True
 |p::r=>match dF l p.1 with
  |some (_,.bool b)=>b=p.2∧cp l r
  |_=>False
def wu(l:SF)(G:fw):fw→Bool
 |[]=>true
 |p::r=>match dF l p.1 with
  |some (C,.bool _)=>o4 C G&&wu l G r
  |_=>false
theorem VG{n:Nat}{l:SF}{a:Act}(H:ay D n l a){G:fw}(hG:iB a G):∀{C:fw},wu l G C=true→(∀p∈C,p∈G)→cp l C
 |[],_,_=>trivial
 |p::r,h,hs=>by
  unfold wu at h;unfold cp;split at h
  ·rename_i C b he;simp only[Bool.and_eq_true]at h;refine⟨?_,VG H hG h.2 (λq hq=>hs q (List.mem_cons_of_mem _ hq))⟩;have h1:=(H.2.2 _ (oZ he)).1 (Gd h.1 hG);have h2:=hG p (hs p List.mem_cons_self);rw[h1]at h2;simpa using h2
  ·cases h
def gd(l:SF)(G:fw)(p:Prop):Prop:=
 match G with
 |[]=>p
 |_=>cp l G→p
def Kw(op:BinOp)(k:IntKind)(a b:Int):Option Value:=
 match op with
 | .add=>some (.int k (k.wrap (a+b)))
 | .sub=>some (.int k (k.wrap (a-b)))
 | .mul=>some (.int k (k.wrap (a*b)))
 | .and| .or| .xor| .andNot=>some (.int k (cD op k a b))
 | .eql=>some (.bool (a==b))
 | .neq=>some (.bool (a !=b))
 | .lss=>some (.bool (decide (a<b)))
 | .leq=>some (.bool (decide (a≤b)))
 | .gtr=>some (.bool (decide (b<a)))
 | .geq=>some (.bool (decide (b≤a)))
 |_=>none
def Kx(op:BinOp)(a b:List UInt8):Option Value:=
 match op with
 | .eql=>some (.bool (a==b))
 | .neq=>some (.bool (!(a==b)))
 | .lss=>some (.bool (Op.bytesLess a b))
 | .leq=>some (.bool (Op.bytesLess a b||a==b))
 | .gtr=>some (.bool (!(Op.bytesLess a b||a==b)))
 | .geq=>some (.bool (!(Op.bytesLess a b)))
 |_=>none
def Dl:BinOp→Bool
 | .shl| .shr=>true
 |_=>false
def bin(P:Program)(op:BinOp)(t:TypeId)(x y:Value):Option Value:=
 match x,y with
 | .int k a,.int k' b=>cond (decide (k=k')&&!Dl op) (Kw op k a b) none
 | .string ⟨⟨a⟩⟩,.string ⟨⟨b⟩⟩=>Kx op a b
 | .bool a,.bool b=>
  match op,P.underlying t with
  | .eql,some .bool=>some (.bool (a==b))
  | .neq,some .bool=>some (.bool (!(a==b)))
  |_,_=>none
 |_,_=>none
theorem VH{P:Program}{w:World}{op:BinOp}{k:IntKind}{t:TypeId}{a b:Int}{v:Value}(hs:Dl op=false)(h:Kw op k a b=some v):
  (binOp op t (.int k a) (.int k b)).run P w=.ok v w:=by
 cases op<;>simp[Kw,Dl]at h hs<;>subst h<;>simp[binOp,Op.intArith,Op.intBits,Op.intCmp,cD]
theorem VI{P:Program}{w:World}{op:BinOp}{t:TypeId}{a b:List UInt8}{v:Value}(h:Kx op a b=some v):
  (binOp op t (.string ⟨⟨a⟩⟩) (.string ⟨⟨b⟩⟩)).run P w=.ok v w:=by
 have ha:(ByteArray.mk ⟨a⟩).toList=a:=ByteArray.toList_mk a;have hb:(ByteArray.mk ⟨b⟩).toList=b:=ByteArray.toList_mk b;cases op<;>simp[Kx]at h<;>subst h<;>simp[binOp,Op.stringOp,ha,hb]
theorem a3D{P:Program}{w:World}{op:BinOp}{t:TypeId}{x y v:Value}(h:bin P op t x y=some v):
  (binOp op t x y).run P w=.ok v w:=by
 unfold bin at h;split at h
 ·rename_i k a k' b;cases hc:(decide (k=k')&&!Dl op)with
  |false=>rw[hc]at h;cases h
  |true=>
   rw[hc]at h;simp only[Bool.and_eq_true,decide_eq_true_eq,Bool.not_eq_true']at hc;obtain⟨rfl,hs⟩:=hc;exact VH hs h
 ·exact VI h
 ·rename_i a b;split at h
  ·rename_i hu;cases h;simp only[binOp,Sem.run_bind,run_equal_bool w t a b hu,Result.andThen_ok,Sem.run_pure]
  ·rename_i hu;cases h;simp only[binOp,Sem.run_bind,run_equal_bool w t a b hu,Result.andThen_ok,Sem.run_pure]
  ·cases h
 ·cases h
theorem a3E{P:Program}{w:World}{op An:BinOp}{t t':TypeId}{p q:Operand}{x y v:Value}(h:bin P op t x y=some v):
  (eqGuard An t' p q x y).run P w=.ok () w:=by
 unfold bin at h;split at h
 ·cases An<;>rfl
 ·cases An<;>rfl
 ·cases An<;>rfl
 ·cases h
structure wv(P:Program)(f:FuncId)(args:Array Value)(v:Value):Prop where
 call:∀w,(callFunc f args).run P w=.ok (.enter f args) w
 run:∀w,Calls P f args w λe w'=>e=.returned v∧Below w.heap.size w w'
structure a3F(P:Program)(f:FuncId)(args:Array Value)(v:Value)(w:World):Prop where
 call:∀w,(callFunc f args).run P w=.ok (.enter f args) w
 run:∀w',Below w.heap.size w w'→Calls P f args w' λe kB=>e=.returned v∧Below w'.heap.size w' kB
def dV(P:Program)(f:FuncId)(args:Array Value)(v:Value)(w:World):Prop:=a3F P f args v w∨∀w',Below w.heap.size w w'→(callFunc f args).run P w'=.ok (.value v) w'
theorem wv.b{P:Program}{f:FuncId}{args:Array Value}{v:Value}{w:World}(h:wv P f args v):dV P f args v w:=.inl ⟨h.call,λw' _=>h.run w'⟩
def ab:Option Addr→Nat
 |some x=>x.block
 |none=>0
def ao:Option Addr→Nat
 |some x=>x.off
 |none=>0
def cK(a:Option Addr):Prop:=a=some ⟨ab a,ao a,none⟩
abbrev Ob:=World→Prop
def aQ(a:Addr)(v:Value)(w:World):Prop:=w.cell? a=some v∧a.block<w.heap.size
def cG(b off:Nat):List Value→Nat→World→Prop
 |[],_,_=>True
 |v::r,j,w=>aQ ⟨b,off+j,none⟩ v w∧cG b off r (j+1) w
def lq(l:SF)(G:fw):List Operand→Option (List Value)
 |[]=>some []
 |x::r=>match ev l G x,lq l G r with
  |some v,some vs=>some (v::vs)
  |_,_=>none
def Ky(x y:Int):Int:=if x<y then y else x
def Kz(b:Builtin):List Value→Option Value
 |[.int k x,.int k' y]=>cond (decide (k=k')) (match b with
  | .min=>some (.int k (if y<x then y else x))
  | .max=>some (.int k (if x<y then y else x))
  |_=>none) none
 |[.int k x,.int k' y,.int k2 z]=>cond (decide (k=k')&&decide (k=k2)) (match b with
  | .max=>some (.int k (if(if x<y then y else x)<z then z else(if x<y then y else x)))
  |_=>none) none
 |[.int k x,.int k' y,.int k2 z,.int k3 u]=>cond (decide (k=k')&&(decide (k=k2)&&decide (k=k3))) (match b with
  | .max=>some (.int k (Ky (Ky (Ky x y) z) u))
  |_=>none) none
 |_=>none
structure Out where
 v:Value
 os:List Value
 ob:Option Ob
def pY(v:Option Value)(os:List Value):Option Out:=v.map λv=>{v,os,ob:=none}
def callee(l:SF)(G:fw)(x:Operand):Option (FuncId×List Value×List Value):=
 match ev l G x with
 |some (.func (.func f) ⟨first⟩ ⟨o5⟩)=>some (f,first,o5)
 |_=>none
def rl(l:SF)(G:fw):Option Operand→Option (Option Value)
 |none=>some none
 |some x=>match ev l G x with
  |some v=>some (some v)
  |none=>none
def Gf(k:IntKind):List Value→Option (List Int)
 |[]=>some []
 |v::r=>match v,Gf k r with
  | .int k' x,some q=>cond (decide (k=k')) (some (x::q)) none
  |_,_=>none
def OK(cs:List Value):Option (IntKind×List Int):=
 match cs with
 | .int k _::_=>match Gf k cs with
  |some q=>some (k,q)
  |none=>none
 |_=>none
def Gg(q:List Int)(z:Nat)(n:Int):List Int:=(q.drop (n.toNat*z)).take z
def KA(k:IntKind)(q:List Int)(z:Nat)(n:Int):List Value:=(List.range z).map λi=>.int k ((Gg q z n).getD i default)
theorem a3G{k:IntKind}{q:List Int}{z:Nat}{n:Int}(h:n.toNat*z+z≤q.length):((q.map (Value.int k)).drop (n.toNat*z)).take z=KA k q z n:=by
 have hl:(Gg q z n).length=z:=by unfold Gg;rw[List.length_take,List.length_drop];omega
 rw[←List.map_drop,←List.map_take];show(Gg q z n).map (Value.int k)=_;unfold KA;refine List.ext_getElem (by simp[hl]) λi h1 h2=>?_;have h3:i<(Gg q z n).length:=by simpa using h1
 simp[List.getD_eq_getElem?_getD,List.getElem?_eq_getElem h3]
def placesOf(P:Program):List Field→Option (List (Nat×Nat))
 |[]=>some []
 |f::r=>match(P.info? f.type).map (·.size),placesOf P r with
  |some z,some ps=>some ((f.offset,z)::ps)
  |_,_=>none
def Ao:TypeDesc→Bool
 | .struct _| .array _ _=>true
 |_=>false
def pZ(P:Program)(t:TypeId)(cs:List Value)(off:Nat):Option Value:=
 match P.underlying t with
 |some d=>cond (Ao d) (match(P.info? t).map (·.size)with
  |some z=>some (.agg ⟨(cs.drop off).take z⟩)
  |none=>none) cs[off]?
 |none=>none
def Gi(f:TypeId→Value→Value→Option Bool)(P:Program)(xs ys:List Value):List Field→Option Bool
 |[]=>some true
 |fd::r=>match decide (fd.name≠ "_")with
  |true=>match pZ P fd.type xs fd.offset,pZ P fd.type ys fd.offset with
   |some a,some b=>match f fd.type a b,Gi f P xs ys r with
    |some p,some q=>some (p&&q)
    |_,_=>none
   |_,_=>none
  |false=>Gi f P xs ys r
def KB(f:Value→Value→Option Bool)(P:Program)(e:TypeId)(c:Nat)(xs ys:List Value):List Nat→Option Bool
 |[]=>some true
 |i::r=>match pZ P e xs (i*c),pZ P e ys (i*c)with
  |some a,some b=>match f a b,KB f P e c xs ys r with
   |some p,some q=>some (p&&q)
   |_,_=>none
  |_,_=>none
def Dn(P:Program):Nat→TypeId→Value→Value→Option Bool
 |0,_,_,_=>none
 |d+1,t,x,y=>match P.underlying t with
  |some .bool=>match x,y with
   | .bool a,.bool b=>some (a==b)
   |_,_=>none
  |some (.int _)=>match x,y with
   | .int k a,.int k' b=>cond (decide (k=k')) (some (a==b)) none
   |_,_=>none
  |some .string=>match x,y with
   | .string ⟨⟨a⟩⟩,.string ⟨⟨b⟩⟩=>some (a==b)
   |_,_=>none
  |some (.struct fs)=>match x,y with
   | .agg ⟨xs⟩,.agg ⟨ys⟩=>cond (P.stoodInHeld t) none (Gi (Dn P d) P xs ys fs.toList)
   |_,_=>none
  |some (.array n e)=>match x,y,(P.info? e).map (·.size)with
   | .agg ⟨xs⟩,.agg ⟨ys⟩,some c=>KB (Dn P d e) P e c xs ys (List.range n)
   |_,_,_=>none
  |_=>none
def Gj(P:Program)(op:BinOp)(t:TypeId)(x y:Value):Option Value:=
 match x,y with
 | .agg _,.agg _=>cond (P.eqGuardType P.depth t) none (match op,Dn P 40 t x y with
  | .eql,some b=>some (.bool b)
  | .neq,some b=>some (.bool (!b))
  |_,_=>none)
 |_,_=>bin P op t x y
def OL(P:Program)(t:TypeId)(parts:List (Nat×Value)):Option Value:=
 match(P.info? t).map (·.zero)with
 |some (some z)=>match P.underlying t with
  |some (.struct fs)=>match placesOf P fs.toList with
   |some ps=>match Instr.fill (λi=>ps[i]?) z.cells parts with
    |some cs=>some (.agg cs)
    |none=>none
   |none=>none
  |some (.array _ e)=>match(P.info? e).map (·.size)with
   |some sz=>match Instr.fill (λi=>some (i*sz,sz)) z.cells parts with
    |some cs=>some (.agg cs)
    |none=>none
   |none=>none
  |_=>none
 |_=>none
def yx(P:Program)(t:TypeId)(y:Operand)(a b:Value):Option Bool:=
 match P.underlying t,a,b with
 |some (.pointer _),.pointer (some _),.pointer none=>some false
 |some (.pointer _),.pointer none,.pointer none=>some true
 |some (.slice _),.slice (some _) _ _,.slice none _ _=>some false
 |some (.slice _),.slice none _ _,.slice none _ _=>some true
 |some (.func _ _ _),.func _ _ _,.nilFunc=>some false
 |some (.func _ _ _),.nilFunc,.nilFunc=>some true
 |some (.interface _),.iface _ _,.nilIface=>some false
 |some (.interface _),.nilIface,.nilIface=>match y with
  | .const _=>some true
  |_=>none
 |_,_,_=>none
def OM(P:Program)(op:BinOp)(t:TypeId)(y:Operand)(a b:Value):Option Value:=
 match op,yx P t y a b with
 | .eql,some c=>some (.bool c)
 | .neq,some c=>some (.bool (!c))
 |_,_=>none
theorem a3H{P:Program}{w:World}{t:TypeId}{y:Operand}{a b:Value}{c:Bool}(h:yx P t y a b=some c)(m:Nat):(Op.equalIn (m+1) t a b).run P w=.ok c w:=by
 unfold yx at h;split at h
 all_goals first
  |(cases h;done)
  |(rename_i hu;split at h<;>first|(cases h;done)|(cases h;simp[Op.equalIn,run_underlying hu]))
  |(rename_i hu;cases h;simp[Op.equalIn,run_underlying hu])
theorem VJ{P:Program}{w:World}{t:TypeId}{y:Operand}{a b:Value}{c:Bool}(h:yx P t y a b=some c):(Op.equal t a b).run P w=.ok c w:=a3H h 9999
theorem VK{P:Program}{w:World}{op:BinOp}{t:TypeId}{p y:Operand}{a b:Value}{c:Bool}(h:yx P t y a b=some c):(eqGuard op t p y a b).run P w=.ok () w:=by
 unfold yx at h;split at h
 all_goals first
  |(cases h;done)
  |(cases op<;>rfl)
  |(split at h<;>first|(cases h;done)|(cases op<;>simp[eqGuard]))
theorem VL{P:Program}{w:World}{op:BinOp}{t:TypeId}{p y:Operand}{a b v:Value}(h:OM P op t y a b=some v):
  (binOp op t a b).run P w=.ok v w∧(eqGuard op t p y a b).run P w=.ok () w:=by
 unfold OM at h;split at h
 ·rename_i c hc;cases h;refine⟨?_,VK hc⟩;have hr:=VJ (w:=w) hc;unfold yx at hc;split at hc<;>first|(cases hc;done)|simp[binOp,hr]
 ·rename_i c hc;cases h;refine⟨?_,VK hc⟩;have hr:=VJ (w:=w) hc;unfold yx at hc;split at hc<;>first|(cases hc;done)|simp[binOp,hr]
 ·cases h
def step1(P:Program)(l:SF)(G:fw)(op:Op)(os:List Value):Option Out:=
 match op with
 | .move x| .assign x=>pY (ev l G x) os
 | .binOp op t x y _=>
  match ev l G x,ev l G y with
  |some (.string ⟨⟨a⟩⟩),some (.string ⟨⟨b⟩⟩)=>
   match op with
   | .add=>some {v:=.string ⟨⟨a++b⟩⟩,os,ob:=some λ_=>gd l G (ln a+ln b≤9223372036854775807)}
   |_=>pY (Kx op a b) os
  |some (.int k a),some (.int k' b)=>
   match op with
   | .quo=>cond (decide (k=k')) (some {v:=.int k (k.wrap (a.tdiv b)),os,ob:=some λ_=>gd l G (b≠0)}) none
   | .rem=>cond (decide (k=k')) (some {v:=.int k (a.tmod b),os,ob:=some λ_=>gd l G (b≠0)}) none
   | .shl=>some {v:=.int k (k.wrap (a*2^(Nat.min b.toNat k.bits))),os,ob:=some λ_=>gd l G (0≤b)}
   | .shr=>some {v:=.int k (a.fdiv (2^(Nat.min b.toNat k.bits))),os,ob:=some λ_=>gd l G (0≤b)}
   |_=>pY (cond (decide (k=k')) (Kw op k a b) none) os
  |some a,some b=>pY (match OM P op t y a b with|some v=>some v|none=>Gj P op t a b) os
  |_,_=>none
 | .build t parts=>
  match lq l G (parts.toList.map (·.2))with
  |some vs=>pY (OL P t ((parts.toList.map (·.1)).zip vs)) os
  |none=>none
 | .field t x f=>
  match ev l G x,P.underlying t with
  |some (.agg ⟨cs⟩),some (.struct fs)=>match fs[f]? with
   |some fd=>pY (pZ P fd.type cs fd.offset) os
   |none=>none
  |_,_=>none
 | .unOp op _ x=>
  match op,ev l G x with
  | .not,some (.bool b)=>some {v:=.bool (!b),os,ob:=none}
  | .neg,some (.int k n)=>some {v:=.int k (k.wrap (0-n)),os,ob:=none}
  | .xor,some (.int k n)=>some {v:=.int k (cD .xor k (if k.signed then-1 else k.max) n),os,ob:=none}
  |_,_=>none
 | .convert s d x=>
  match ev l G x,P.underlying s,P.underlying d with
  |some (.int _ n),some _,some (.int k)=>some {v:=.int k (k.wrap n),os,ob:=none}
  |some (.string a),some _,some .string=>some {v:=.string a,os,ob:=none}
  |some (.slice a n c),some _,some .string=>
   match os with
   |v::os=>some {v,os,ob:=some λw=>gd l G (∀w',Below w.heap.size w w'→(convert s d (.slice a n c)).run P w'=.ok v w')}
   |[]=>none
  |_,_,_=>none
 | .extract x i=>
  match ev l G x with
  |some (.tuple ⟨vs⟩)=>pY vs[i]? os
  |_=>none
 | .nilCheck x=>
  match ev l G x with
  |some (.pointer (some a))=>some {v:=.pointer (some a),os,ob:=none}
  |some (.func (.func f) a c)=>some {v:=.func (.func f) a c,os,ob:=none}
  |some (.func (.method nm) ⟨[.iface t x]⟩ c)=>some {v:=.func (.method nm) ⟨[.iface t x]⟩ c,os,ob:=some λ_=>∀w',(nilAhead (P.types.size+Made.depth) t x nm).run P w'=.ok (some false) w'}
  |_=>none
 | .makeInterface T x=>
  match ev l G x,P.underlying T with
  |some _,some (.interface _)=>none
  |some v,some _=>some {v:=.iface T v,os,ob:=none}
  |_,_=>none
 | .typeAssert x _ A ok=>
  match ev l G x,P.underlying A with
  |some (.iface t v),some (.interface want)=>match(P.info? t).map λinf=>Instr.missingMethod want inf.methods with
   |some none=>some {v:=cond ok (.tuple ⟨[.iface t v,.bool true]⟩) (.iface t v),os,ob:=none}
   |_=>none
  |_,_=>none
 | .fieldAddr t x f=>
  match ev l G x,P.underlying t with
  |some (.pointer (some ⟨b,off,none⟩)),some (.struct fs)=>
   match fs[f]? with
   |some fd=>match(P.info? fd.type).map (·.size)with
    |some (_+1)=>some {v:=.pointer (some ⟨b,off+fd.offset,none⟩),os,ob:=none}
    |_=>none
   |none=>none
  |_,_=>none
 | .index t x i=>
  match ev l G x,ev l G i,P.underlying t with
  |some (.string ⟨⟨s⟩⟩),some (.int _ n),some .string=>some {v:=.int .u8 (aI s n),os,ob:=some λ_=>gd l G (0≤n∧n<ln s)}
  |some (.agg ⟨cs⟩),some (.int ki n),some (.array len e)=>
   match OK cs,(P.info? e).map (·.size),P.underlying e with
   |some (k,q),some 1,some (.int _)=>cond (Nat.beq q.length len) (some {v:=.int k (q.getD n.toNat default),os,ob:=some λ_=>gd l G (0≤n∧n<(len:Int))}) none
   |some (k,q),some z,some (.array _ _)=>cond (Nat.beq q.length (len*z)) (some {v:=.agg ⟨KA k q z n⟩,os,ob:=some λ_=>gd l G (0≤n∧n<(len:Int))}) none
   |_,_,_=>
    match os with
    |v::os=>some {v,os,ob:=some λ_=>gd l G (∀w',(Instr.index t (.agg ⟨cs⟩) (.int ki n)).run P w'=.ok v w')}
    |[]=>none
  |_,_,_=>none
 | .slice t x lo hi none=>
  match ev l G x,rl l G lo,rl l G hi,P.underlying t with
  |some (.string ⟨⟨s⟩⟩),some none,some none,some .string=>some {v:=.string ⟨⟨s⟩⟩,os,ob:=none}
  |some (.string ⟨⟨s⟩⟩),some (some (.int _ i)),some none,some .string=>some {v:=.string ⟨⟨V.sub s i (ln s)⟩⟩,os,ob:=some λ_=>gd l G (0≤i∧i≤ln s)}
  |some (.string ⟨⟨s⟩⟩),some none,some (some (.int _ j)),some .string=>some {v:=.string ⟨⟨V.sub s 0 j⟩⟩,os,ob:=some λ_=>gd l G (0≤j∧j≤ln s)}
  |some (.string ⟨⟨s⟩⟩),some (some (.int _ i)),some (some (.int _ j)),some .string=>some {v:=.string ⟨⟨V.sub s i j⟩⟩,os,ob:=some λ_=>gd l G (0≤i∧i≤j∧j≤ln s)}
  |some (.pointer (some ⟨b,off,none⟩)),some (some (.int _ i)),some none,some (.array len e)=>
   match(P.info? e).map (·.size)with
   |some (z+1)=>some {v:=.slice (some ⟨b,off+i.toNat*(z+1),none⟩) (len-i.toNat) (len-i.toNat),os,ob:=some λ_=>gd l G (0≤i∧i<(len:Int))}
   |_=>none
  |some (.pointer (some ⟨b,off,none⟩)),some none,some (some (.int _ j)),some (.array len e)=>
   match(P.info? e).map (·.size)with
   |some (_+1)=>some {v:=.slice (some ⟨b,off,none⟩) j.toNat len,os,ob:=some λ_=>gd l G (0≤j∧j≤(len:Int))}
   |_=>none
  |some (.slice a n c),some p5,some kC,some (.slice _)=>
   match os with
   |v::os=>some {v,os,ob:=some λ_=>gd l G (∀w',(Instr.sliceAt t (.slice a n c) p5 kC none).run P w'=.ok v w')}
   |[]=>none
  |_,_,_,_=>none
 | .indexAddr t x i=>
  match ev l G x,ev l G i,P.underlying t with
  |some (.slice a n _),some (.int _ i),some (.slice e)=>
   match(P.info? e).map (·.size)with
   |some (z+1)=>some {v:=.pointer (some ⟨ab a,ao a+i.toNat*(z+1),none⟩),os,ob:=some λ_=>gd l G (cK a∧0≤i∧i<(n:Int))}
   |_=>none
  |some (.pointer (some ⟨b,off,none⟩)),some (.int _ i),some (.array len e)=>
   match(P.info? e).map (·.size)with
   |some (z+1)=>some {v:=.pointer (some ⟨b,off+i.toNat*(z+1),none⟩),os,ob:=some λ_=>gd l G (0≤i∧i<(len:Int))}
   |_=>none
  |_,_,_=>none
 | .load t x=>
  match ev l G x,os with
  |some (.pointer (some ⟨b,off,none⟩)),v::os=>
   match P.underlying t,v with
   |some (.struct _),.agg ⟨cs⟩=>cond (decide ((P.info? t).map (·.size)=some cs.length)) (some {v,os,ob:=some λw=>gd l G (cG b off cs 0 w)}) none
   |some (.array _ _),.agg ⟨cs⟩=>cond (decide ((P.info? t).map (·.size)=some cs.length)) (some {v,os,ob:=some λw=>gd l G (cG b off cs 0 w)}) none
   |some (.struct _),_=>none
   |some (.array _ _),_=>none
   |some _,v=>some {v,os,ob:=some λw=>gd l G (aQ ⟨b,off,none⟩ v w)}
   |none,_=>none
  |_,_=>none
 | .makeFunc fn first o5=>
  match lq l G first.toList,lq l G o5.toList with
  |some a,some b=>some {v:=.func fn ⟨a⟩ ⟨b⟩,os,ob:=none}
  |_,_=>none
 | .call c=>
  match c.callee with
  | .builtin .len=>
   match c.args.toList,c.argTypes.toList with
   |[x],[t]=>match ev l G x,P.underlying t with
    |some (.string ⟨⟨s⟩⟩),some .string=>some {v:=.int .i64 (ln s),os,ob:=none}
    |some (.slice _ n _),some (.slice _)=>some {v:=.int .i64 n,os,ob:=none}
    |_,some (.array n _)=>some {v:=.int .i64 n,os,ob:=none}
    |_,_=>none
   |_,_=>none
  | .builtin .min=>match lq l G c.args.toList with
   |some vs=>pY (Kz .min vs) os
   |none=>none
  | .builtin .max=>match lq l G c.args.toList with
   |some vs=>pY (Kz .max vs) os
   |none=>none
  | .value x=>match callee l G x,lq l G c.args.toList,os with
   |some (f,first,o5),some as,v::os=>some {v,os,ob:=some λw=>gd l G (dV P f ⟨first++as++o5⟩ v w)}
   |_,_,_=>none
  |_=>none
 |_=>none
def KC(l:SF)(G:fw)(c a b:Operand):Option Value:=
 match c with
 | .tmp s=>match ev l G c,ev l ((s,true)::G) a,ev l ((s,false)::G) b with
  |some (.bool t),some (.bool x),some (.bool y)=>some (.bool (cond t x y))
  |some (.bool false),_,some (.bool y)=>some (.bool y)
  |some (.bool true),some (.bool x),_=>some (.bool x)
  |_,_,_=>none
 |_=>none
def Yields(P:Program)(o:Oper)(a:Act)(w:World)(v:Value):Prop:=
 ∀w',Below w.heap.size w w'→o.quietAt P a (λkB=>Below w.heap.size w kB) w' v
theorem a3I{P:Program}{o:Oper}{a:Act}{w:World}{v:Value}
  (h:∀w',Below w.heap.size w w'→(execOp a.eval o).run P w'=.ok (.value v) w'):Yields P o a w v:=by
 intro w' hw;unfold Oper.quietAt;rw[h w' hw];exact⟨rfl,rfl⟩
theorem ka{n:Nat}{l:SF}{a:Act}(H:ay D n l a){G:fw}(hG:iB a G)(hk:wu l G G=true){p:Prop}(h:gd l G p):p:=by
 unfold gd at h;split at h
 ·exact h
 ·exact h (VG H hG hk (λ_ hp=>hp))
theorem KD{n:Nat}{l:SF}{a:Act}(H:ay D n l a){G:fw}(hG:iB a G):∀{xs:List Operand}{vs:List Value},lq l G xs=some vs→xs.map a.eval=vs
 |[],vs,h=>by simp[lq]at h;subst h;rfl
 |x::r,vs,h=>by
  unfold lq at h;split at h
  ·rename_i v vs' h1 h2;simp only[Option.some.injEq]at h;subst h;simp only[List.map_cons,H.ev hG h1,KD H hG h2]
  ·cases h
theorem yy{n:Nat}{l:SF}{a:Act}(H:ay D n l a){G:fw}(hG:iB a G){xs:Array Operand}{vs:List Value}(h:lq l G xs.toList=some vs):xs.map a.eval=⟨vs⟩:=by
 rw[←KD H hG h];cases xs;simp
theorem a3J{P:Program}{w:World}{t:TypeId}{s:List UInt8}{k:IntKind}{i:Int}(hu:P.underlying t=some .string)(h0:0≤i)(h1:i<ln s):
  (Instr.index t (.string ⟨⟨s⟩⟩) (.int k i)).run P w=.ok (.int .u8 (aI s i)) w:=by
 have hb:i.toNat<s.length:=by unfold ln at h1;omega
 have hg:(ByteArray.mk ⟨s⟩)[i.toNat]?=some s[i.toNat]:=by
  rw[ByteArray.getElem?_lt' _ _ (by simpa[ByteArray.size]using hb)];rfl
 have hd:s[i.toNat]?.getD 0=s[i.toNat]:=by simp[List.getElem?_eq_getElem hb]
 simp[Instr.index,asIntOf,run_underlying hu,h0,hg,aI,hd]
theorem a3K{P:Program}{w:World}{t:TypeId}{s:List UInt8}(hu:P.underlying t=some .string){lo hi:Option Value}{i j:Int}
  (yz:(lo=none∧i=0)∨∃k,lo=some (.int k i))(Gk:(hi=none∧j=ln s)∨∃k,hi=some (.int k j))(h0:0≤i)(h1:i≤j)(h2:j≤ln s):
  (Instr.slice t (.string ⟨⟨s⟩⟩) lo hi none).run P w=.ok (.string ⟨⟨V.sub s i j⟩⟩) w:=by
 have e:(ByteArray.mk ⟨s⟩).extract i.toNat j.toNat=⟨⟨V.sub s i j⟩⟩:=by
  have:=ByteArray.extract_mk s i.toNat j.toNat;exact this
 have hs:(ByteArray.mk ⟨s⟩).size=s.length:=rfl;have hj:j.toNat≤s.length:=by unfold ln at h2;omega
 have Gl:j≤(s.length:Int):=h2;rcases Gk with⟨rfl,rfl⟩|⟨k',rfl⟩<;>rcases yz with⟨rfl,rfl⟩|⟨k,rfl⟩
 ·have:(ln s).toNat=s.length:=by simp[ln]
  rw[this]at e;have e2:s=V.sub s 0 (ln s):=by simp[V.sub,ln]
  simp[Instr.slice,run_underlying hu,Instr.sliceBounds];exact e2
 ·have:(ln s).toNat=s.length:=by simp[ln]
  rw[this]at e;have Ap:i≤(s.length:Int):=h1;simp[Instr.slice,run_underlying hu,Instr.sliceBounds,Instr.sliceBound,asIntOf,hs,h0,Ap,e]
 ·simp only[Int.toNat_zero]at e;simp[Instr.slice,run_underlying hu,Instr.sliceBounds,Instr.sliceBound,asIntOf,hs,h1,Gl,e]
 ·have KE:0≤j:=by omega
  have Ap:¬max j 0<i:=by omega
  simp[Instr.slice,run_underlying hu,Instr.sliceBounds,Instr.sliceBound,asIntOf,hs,h0,KE,Ap,Gl,e]
theorem run_loadCells{P:Program}{w:World}{b off:Nat}:∀(cs:List Value)(j:Nat)(acc:Array Value),(∀i (h:i<cs.length),w.cell? ⟨b,off+(j+i),none⟩=some cs[i])→
  (loadCellsFrom ⟨b,off,none⟩ j cs.length acc).run P w=.ok (acc++cs.toArray) w
 |[],j,acc,_=>by simp[loadCellsFrom]
 |v::r,j,acc,h=>by
  have h0:=h 0 (by simp);have ha:(Addr.add ⟨b,off,none⟩ j)=⟨b,off+j,none⟩:=by
   unfold Addr.add;split
   ·rename_i e;subst e;rfl
   ·rfl
  simp only[Nat.add_zero,List.getElem_cons_zero]at h0;have hr:=run_loadCells (P:=P) (w:=w) r (j+1) (acc.push v) (λi hi=>by
   have:=h (i+1) (by simpa using hi);simpa[Nat.add_assoc,Nat.add_comm 1 i]using this)
  simp only[List.length_cons,loadCellsFrom,Sem.run_bind,ha,run_load,h0,Result.andThen_ok,hr];simp
theorem ON{b off:Nat}{w w':World}(hb:Below w.heap.size w w'):∀{cs:List Value}{j:Nat},cG b off cs j w→∀i (h:i<cs.length),w'.cell? ⟨b,off+(j+i),none⟩=some cs[i]
 |v::r,j,h,0,_=>by
  have:=h.1;have h2:=hb.cell this.2;simp only[Nat.add_zero,List.getElem_cons_zero];rw[h2];exact this.1
 |v::r,j,h,i+1,hi=>by
  have:=ON hb (cs:=r) (j:=j+1) h.2 i (by simpa using hi);simpa[Nat.add_assoc,Nat.add_comm 1 i]using this
theorem Addr.add_zero'(b off n:Nat):Addr.add ⟨b,off,none⟩ n=⟨b,off+n,none⟩:=by
 unfold Addr.add;split
 ·rename_i e;subst e;rfl
 ·rfl
theorem ke{P:Program}{w:World}{t:TypeId}{z:Nat}(h:(P.info? t).map (·.size)=some z):(sizeOf t).run P w=.ok z w:=by
 cases hi:P.info? t with
 |none=>simp[hi]at h
 |some i=>
  simp[hi]at h;simp[sizeOf,typeInfo,hi,h]
theorem sI{v:Option Value}{os:List Value}{out:Out}(h:pY v os=some out):v=some out.v∧out.ob=none:=by
 cases v with
 |none=>simp[pY]at h
 |some u=>simp[pY]at h;subst h;exact⟨rfl,rfl⟩
theorem VM{P:Program}{w:World}{b:Builtin}{ns:Array TypeId}{ty:TypeId}{cs:Array Bool}{vs:List Value}{v:Value}(h:Kz b vs=some v):
  (builtin b ns ty cs ⟨vs⟩).run P w=.ok (.value v) w:=by
 unfold Kz at h;split at h
 ·rename_i k x k' y;cases hc:decide (k=k')with
  |false=>rw[hc]at h;cases h
  |true=>
   rw[hc]at h;obtain rfl:k=k':=by simpa using hc
   simp only[cond_true]at h;split at h
   ·cases h;simp[builtin,Builtin.min_,Builtin.min2]
   ·cases h;simp[builtin,Builtin.max_,Builtin.max2]
   ·cases h
 ·rename_i k x k' y k2 z;cases hc:decide (k=k')&&decide (k=k2)with
  |false=>rw[hc]at h;cases h
  |true=>
   rw[hc]at h;rw[Bool.and_eq_true,decide_eq_true_eq,decide_eq_true_eq]at hc;obtain⟨rfl,rfl⟩:=hc;simp only[cond_true]at h;split at h
   ·cases h;simp[builtin,Builtin.max_,Builtin.max2]
   ·cases h
 ·rename_i k x k' y k2 z k3 u;cases hc:decide (k=k')&&(decide (k=k2)&&decide (k=k3))with
  |false=>rw[hc]at h;cases h
  |true=>
   rw[hc]at h;rw[Bool.and_eq_true,Bool.and_eq_true,decide_eq_true_eq,decide_eq_true_eq,decide_eq_true_eq]at hc;obtain⟨rfl,rfl,rfl⟩:=hc;simp only[cond_true]at h;split at h
   ·cases h;simp[builtin,Builtin.max_,Builtin.max2,Ky];rfl
   ·cases h
 ·cases h
theorem a3L{P:Program}{w w':World}{t:TypeId}{b off:Nat}{v:Value}{d:TypeDesc}(hu:P.underlying t=some d)
  (hd:(match d with| .struct _| .array _ _=>true|_=>false)=false)(hb:Below w.heap.size w w')(h:aQ ⟨b,off,none⟩ v w):
  (Instr.loadAt t (.pointer (some ⟨b,off,none⟩))).run P w'=.ok v w':=by
 have hc:w'.cell? ⟨b,off,none⟩=some v:=by rw[hb.cell h.2];exact h.1
 have hi:(isAgg t).run P w'=.ok false w':=by
  cases d<;>simp at hd<;>simp[isAgg,run_underlying hu]
 simp[Instr.loadAt,Instr.sureAddr,loadVar,hi,hc]
theorem VN{P:Program}{w w':World}{t:TypeId}{b off:Nat}{cs:List Value}{d:TypeDesc}(hu:P.underlying t=some d)
  (hd:(match d with| .struct _| .array _ _=>true|_=>false)=true)(hz:(P.info? t).map (·.size)=some cs.length)(hb:Below w.heap.size w w')(h:cG b off cs 0 w):
  (Instr.loadAt t (.pointer (some ⟨b,off,none⟩))).run P w'=.ok (.agg ⟨cs⟩) w':=by
 have hi:(isAgg t).run P w'=.ok true w':=by
  cases d<;>simp at hd<;>simp[isAgg,run_underlying hu]
 have hl:=run_loadCells (P:=P) (w:=w') (b:=b) (off:=off) cs 0 #[] (ON hb h);simp only[Instr.loadAt,Instr.sureAddr,loadVar,Sem.run_bind,Sem.run_pure,Result.andThen_ok,hi,if_true,ke hz,loadCells,hl];simp
theorem VO{k:IntKind}:∀{cs:List Value}{q:List Int},Gf k cs=some q→cs=q.map (Value.int k)
 |[],q,h=>by simp[Gf]at h;subst h;rfl
 |v::r,q,h=>by
  unfold Gf at h;split at h
  ·rename_i k' x q' hr;cases hc:decide (k=k')with
   |false=>rw[hc]at h;cases h
   |true=>
    rw[hc]at h;simp only[cond_true,Option.some.injEq]at h;subst h;obtain rfl:k=k':=by simpa using hc
    rw[VO hr];rfl
  ·cases h
theorem VP{cs:List Value}{k:IntKind}{q:List Int}(h:OK cs=some (k,q)):cs=q.map (Value.int k):=by
 unfold OK at h;split at h
 ·split at h
  ·rename_i hq;simp only[Option.some.injEq,Prod.mk.injEq]at h;obtain⟨rfl,rfl⟩:=h;exact VO hq
  ·cases h
 ·cases h
theorem yB{P:Program}{w:World}{t:TypeId}{cs:List Value}{off:Nat}{v:Value}(h:pZ P t cs off=some v):(part t ⟨cs⟩ off).run P w=.ok v w:=by
 unfold pZ at h;split at h
 ·rename_i d hu;cases hd:Ao d with
  |true=>
   rw[hd]at h;simp only[cond_true]at h;split at h
   ·rename_i z hz;cases h;have hi:(isAgg t).run P w=.ok true w:=by cases d<;>simp[Ao]at hd<;>simp[isAgg,run_underlying hu]
    simp only[part,Sem.run_bind,hi,Result.andThen_ok,if_true,ke hz,Sem.run_pure];congr 2;apply Array.ext';simp
   ·cases h
  |false=>
   rw[hd]at h;simp only[cond_false]at h;have hi:(isAgg t).run P w=.ok false w:=by cases d<;>simp[Ao]at hd<;>simp[isAgg,run_underlying hu]
   have:(Array.mk cs)[off]?=some v:=by simpa using h
   simp only[part,Sem.run_bind,hi,Result.andThen_ok,Bool.false_eq_true,if_false,this,Sem.run_pure]
 ·cases h
theorem KF{P:Program}:∀(d m:Nat)(t:TypeId)(x y:Value)(b:Bool)(w:World),d≤m→Dn P d t x y=some b→(Op.equalIn m t x y).run P w=.ok b w
 |0,m,t,x,y,b,w,_,h=>by simp[Dn]at h
 |d+1,0,t,x,y,b,w,hm,h=>by omega
 |d+1,m+1,t,x,y,b,w,hm,h=>by
  unfold Dn at h;split at h
  ·rename_i hu;split at h
   ·cases h;exact run_equalIn_bool w m t _ _ hu
   ·cases h
  ·rename_i k0 hu;split at h
   ·rename_i k a k' b';cases hc:decide (k=k')with
    |false=>rw[hc]at h;cases h
    |true=>
     rw[hc]at h;obtain rfl:k=k':=by simpa using hc
     simp only[cond_true,Option.some.injEq]at h;subst h;exact run_equalIn_int w m t k _ _ _ hu
   ·cases h
  ·rename_i hu;split at h
   ·rename_i a b';cases h;have ha:(ByteArray.mk ⟨a⟩).toList=a:=ByteArray.toList_mk a;have hb:(ByteArray.mk ⟨b'⟩).toList=b':=ByteArray.toList_mk b';rw[run_equalIn_string w m t _ _ hu,ha,hb]
   ·cases h
  ·rename_i fs hu;split at h
   ·rename_i xs ys;cases hs:P.stoodInHeld t with
    |true=>rw[hs]at h;cases h
    |false=>
     rw[hs]at h;simp only[cond_false]at h;have hf:P.fieldsOf t=fs:=by simp[Program.fieldsOf,hu]
     rw[run_equalIn_struct w m t _ _ (by rw[hf];exact hu) hs,hf];have OO:d≤m:=by omega
     generalize fs.toList=l at h;clear hu hf
     induction l generalizing b with
     |nil=>
      simp only[Gi,Option.some.injEq]at h;subst h;simp[Op.eqFields]
     |cons fd r ih=>
      unfold Gi at h;split at h
      ·rename_i cQ;have cQ:fd.name≠ "_" :=by simpa using cQ
       split at h
       ·rename_i a b' h1 h2;split at h
        ·rename_i p q h3 h4;cases h;have e1:=yB (w:=w) h1;have e2:=yB (w:=w) h2;have e3:=KF d m fd.type a b' p w OO h3;simp only[Op.eqFields,if_pos cQ,Sem.run_bind,e1,e2,e3,Result.andThen_ok];cases p with
         |false=>simp
         |true=>simpa using ih _ h4
        ·cases h
       ·cases h
      ·rename_i cQ;have cQ:¬fd.name≠ "_" :=by simpa using cQ
       simp only[Op.eqFields,if_neg cQ];exact ih _ h
   ·cases h
  ·rename_i n e hu;split at h
   ·rename_i xs ys c hc;cases fO:P.info? e with
    |none=>simp[fO]at hc
    |some inf=>
     have Aq:P.cellsOf e=c:=by simp[fO]at hc;simp[Program.cellsOf,fO,hc]
     rw[run_equalIn_array w m _ _ hu fO,Aq];have OO:d≤m:=by omega
     generalize List.range n=l at h
     induction l generalizing b with
     |nil=>
      simp only[KB,Option.some.injEq]at h;subst h;simp[Op.eqItems]
     |cons i r ih=>
      unfold KB at h;split at h
      ·rename_i a b' h1 h2;split at h
       ·rename_i p q h3 h4;cases h;have e1:=yB (w:=w) h1;have e2:=yB (w:=w) h2;have e3:=KF d m e a b' p w OO h3;simp only[Op.eqItems,Sem.run_bind,e1,e2,e3,Result.andThen_ok];cases p with
        |false=>simp
        |true=>simpa using ih _ h4
       ·cases h
      ·cases h
   ·cases h
  ·cases h
theorem a3M{P:Program}{w:World}{op:BinOp}{t:TypeId}{x y v:Value}(h:Gj P op t x y=some v):
  (binOp op t x y).run P w=.ok v w:=by
 unfold Gj at h;split at h
 ·cases hg:P.eqGuardType P.depth t with
  |true=>rw[hg]at h;cases h
  |false=>
   rw[hg]at h;simp only[cond_false]at h;split at h
   ·rename_i b he;cases h;rw[run_eql_struct,KF 40 10000 t _ _ b w (by omega) he];rfl
   ·rename_i b he;cases h;rw[run_neq_struct,KF 40 10000 t _ _ b w (by omega) he];rfl
   ·cases h
 ·exact a3D h
theorem a3N{P:Program}{w:World}{op An:BinOp}{t:TypeId}{p q:Operand}{x y v:Value}(h:Gj P op t x y=some v):
  (eqGuard An t p q x y).run P w=.ok () w:=by
 unfold Gj at h;split at h
 ·cases hg:P.eqGuardType P.depth t with
  |true=>rw[hg]at h;cases h
  |false=>exact run_eqGuard_agg w An t p q _ _ hg
 ·exact a3E h
theorem OP(f:Operand→Value):∀q:List (Nat×Operand),q.map (λp=>(p.1,f p.2))=(q.map (·.1)).zip ((q.map (·.2)).map f)
 |[]=>rfl
 |x::r=>by simp only[List.map_cons,List.zip_cons_cons,OP f r]
theorem run_places{P:Program}{w:World}:∀(fs:List Field)(ps:List (Nat×Nat)),placesOf P fs=some ps→((fs.mapM λf=>do pure (f.offset,←sizeOf f.type):Sem (List (Nat×Nat)))).run P w=.ok ps w
 |[],ps,h=>by simp[placesOf]at h;subst h;simp
 |f::r,ps,h=>by
  unfold placesOf at h;split at h
  ·rename_i z qs hz hq;cases h;have ih:=run_places (w:=w) r qs hq;simp only[List.mapM_cons,Sem.run_bind,ke hz,Result.andThen_ok,Sem.run_pure,ih]
  ·cases h
theorem a3O{P:Program}{w:World}{t:TypeId}{parts:Array (Nat×Value)}{v:Value}(h:OL P t parts.toList=some v):(Instr.build t parts).run P w=.ok v w:=by
 unfold OL at h;split at h
 ·rename_i z hz;have yC:(zeroValue t).run P w=.ok z w:=by
   cases hi:P.info? t with
   |none=>simp[hi]at hz
   |some inf=>
    simp[hi]at hz;simp[zeroValue,typeInfo,hi,hz]
  split at h
  ·rename_i fs hu;split at h
   ·rename_i ps hp;split at h
    ·rename_i cs hc;cases h;have hm:(fs.mapM λf=>do pure (f.offset,←sizeOf f.type):Sem (Array (Nat×Nat))).run P w=.ok ⟨ps⟩ w:=by
      have:=run_places (w:=w) fs.toList ps hp;rw[Array.mapM_eq_mapM_toList];simp only[map_eq_pure_bind,Sem.run_bind,this,Result.andThen_ok,Sem.run_pure]
     have Ar:Instr.fill (λx=>(Array.mk ps)[x]?) z.cells parts.toList=some cs:=by
      rw[←hc];simp
     simp only[Instr.build,Sem.run_bind,yC,run_underlying hu,Result.andThen_ok,hm,Ar,Sem.run_pure]
    ·cases h
   ·cases h
  ·rename_i n e hu;split at h
   ·rename_i sz gk;split at h
    ·rename_i cs hc;cases h;simp only[Instr.build,Sem.run_bind,yC,run_underlying hu,Result.andThen_ok,ke gk,hc,Sem.run_pure]
    ·cases h
   ·cases h
  ·cases h
 ·cases h
def a3P:Op→Bool
 | .call ⟨.value _,_,_⟩=>true
 |_=>false
def Yr(P:Program)(o:Oper)(a:Act)(w:World)(v:Value):Prop:=
 (∀w',Below w.heap.size w w'→(execOp a.eval o).run P w'=.ok (.value v) w')∨(a3P o.op=true∧Yields P o a w v)
theorem Yr.run{P:Program}{o:Oper}{a:Act}{w:World}{v:Value}(h:∀w',Below w.heap.size w w'→(execOp a.eval o).run P w'=.ok (.value v) w'):Yr P o a w v:=.inl h
theorem Yr.VQ{P:Program}{o:Oper}{a:Act}{w:World}{v:Value}(h:Yr P o a w v):Yields P o a w v:=by
 rcases h with h|h
 ·exact a3I h
 ·exact h.2
set_option maxHeartbeats 1000000 in
theorem a3Q{P:Program}{n:Nat}{l:SF}{a:Act}{G:fw}{w:World}{op:Op}{os:List Value}{out:Out}{dst:Option Tmp}{ty:TypeId}{pos:String}{after:Array Edge}{guard:Option (Nat×Bool)}
  (H:ay D n l a)(hG:iB a G)(hk:wu l G G=true)(h:step1 P l G op os=some out)(dm:∀ob,out.ob=some ob→ob w):Yr P ⟨dst,op,ty,pos,after,guard⟩ a w out.v:=by
 unfold step1 at h;split at h
 ·
  obtain⟨hv,_⟩:=sI h;exact Yr.run λw' _=>by simp[execOp,H.ev hG hv]
 ·obtain⟨hv,_⟩:=sI h;exact Yr.run λw' _=>by simp[execOp,H.ev hG hv]
 ·
  rename_i op t x y yt;split at h
  ·rename_i s1 s2 e1 e2;have e1:=H.ev hG e1;have e2:=H.ev hG e2;split at h
   ·simp only[Option.some.injEq]at h;subst h;have ho:=ka H hG hk (dm _ rfl);refine Yr.run λw' _=>?_;have hr:=run_string_add_sum (P:=P) (w:=w') ⟨⟨s1⟩⟩ ⟨⟨s2⟩⟩ (by simp only[ByteArray.size];unfold ln at ho;simp;omega);have hc:(ByteArray.mk ⟨s1⟩)++(ByteArray.mk ⟨s2⟩)=ByteArray.mk ⟨s1++s2⟩:=ByteArray.mk_append_mk s1 s2;rw[hc]at hr;simp[execOp,e1,e2,eqGuard,binOp,hr]
   ·obtain⟨hv,_⟩:=sI h;refine Yr.run λw' _=>?_;have hg:∀p q,(eqGuard op t p q (.string ⟨⟨s1⟩⟩) (.string ⟨⟨s2⟩⟩)).run P w'=.ok () w':=λp q=>by cases op<;>rfl
    simp[execOp,e1,e2,hg,VI hv]
  ·rename_i k i1 k' i2 e1 e2;have e1:=H.ev hG e1;have e2:=H.ev hG e2;have hg:∀w' p q,(eqGuard op t p q (.int k i1) (.int k' i2)).run P w'=.ok () w':=λw' p q=>by cases op<;>rfl
   split at h
   ·cases hc:decide (k=k')with
    |false=>rw[hc]at h;cases h
    |true=>
     rw[hc]at h;obtain rfl:k=k':=by simpa using hc
     simp only[cond_true,Option.some.injEq]at h;subst h;have ho:=ka H hG hk (dm _ rfl);exact Yr.run λw' _=>by simp[execOp,e1,e2,hg,binOp,Op.intDiv,ho]
   ·cases hc:decide (k=k')with
    |false=>rw[hc]at h;cases h
    |true=>
     rw[hc]at h;obtain rfl:k=k':=by simpa using hc
     simp only[cond_true,Option.some.injEq]at h;subst h;have ho:=ka H hG hk (dm _ rfl);exact Yr.run λw' _=>by simp[execOp,e1,e2,hg,binOp,Op.intDiv,ho]
   ·simp only[Option.some.injEq]at h;subst h;have ho:=ka H hG hk (dm _ rfl);have OQ:¬i2<0:=by omega
    exact Yr.run λw' _=>by simp[execOp,e1,e2,hg,binOp,Op.shift,OQ,Nat.min_def]
   ·simp only[Option.some.injEq]at h;subst h;have ho:=ka H hG hk (dm _ rfl);have OQ:¬i2<0:=by omega
    exact Yr.run λw' _=>by simp[execOp,e1,e2,hg,binOp,Op.shift,OQ,Nat.min_def]
   ·rename_i hq hr rm o6;obtain⟨hv,_⟩:=sI h;cases hc:decide (k=k')with
    |false=>rw[hc]at hv;cases hv
    |true=>
     rw[hc]at hv;obtain rfl:k=k':=by simpa using hc
     have hs:Dl op=false:=by cases op<;>simp_all [Dl]
     exact Yr.run λw' _=>by simp[execOp,e1,e2,hg,VH hs hv]
  ·rename_i v1 v2 _ _ e1 e2;have e1:=H.ev hG e1;have e2:=H.ev hG e2;obtain⟨hv,_⟩:=sI h;split at hv
   ·rename_i v3 hn;simp only[Option.some.injEq]at hv;subst hv;exact Yr.run λw' _=>by simp[execOp,e1,e2,(VL (w:=w') (p:=x) hn).1,(VL (w:=w') (p:=x) hn).2]
   ·exact Yr.run λw' _=>by simp[execOp,e1,e2,a3N hv,a3M hv]
  ·cases h
 ·
  rename_i t parts;split at h
  ·rename_i vs e1;obtain⟨hv,_⟩:=sI h;refine Yr.run λw' _=>?_;have hp:(parts.map λp=>(p.1,a.eval p.2)).toList=(parts.toList.map (·.1)).zip vs:=by
    rw[←KD H hG e1,←OP];cases parts;simp
   have hr:=a3O (P:=P) (w:=w') (t:=t) (parts:=parts.map λp=>(p.1,a.eval p.2)) (by rw[hp];exact hv);simp only[execOp];rw[show(parts.map λx=>match x with|(i,x)=>(i,a.eval x))=parts.map λp=>(p.1,a.eval p.2)from rfl];simp[hr]
  ·cases h
 ·
  split at h
  ·rename_i cs fs e1 hu;split at h
   ·rename_i fd hf;obtain⟨hv,_⟩:=sI h;exact Yr.run λw' _=>by simp[execOp,H.ev hG e1,Instr.field,run_underlying hu,hf,asAgg,yB hv]
   ·cases h
  ·cases h
 ·
  split at h
  ·rename_i b e1;cases h;exact Yr.run λw' _=>by simp[execOp,H.ev hG e1,Op.unary]
  ·rename_i k m e1;cases h;exact Yr.run λw' _=>by simp[execOp,H.ev hG e1,Op.unary,Op.intArith]
  ·rename_i k m e1;cases h;exact Yr.run λw' _=>by simp[execOp,H.ev hG e1,Op.unary,Op.intBits,cD]
  ·cases h
 ·
  split at h
  ·rename_i k m d k' e1 KG qa;cases h;refine Yr.run λw' _=>?_;simp only[execOp,H.ev hG e1,convert,Sem.run_bind,run_underlying KG,run_underlying qa,Result.andThen_ok];simp[Conv.intToInt]
  ·rename_i s1 d e1 KG qa;cases h;refine Yr.run λw' _=>?_;simp only[execOp,H.ev hG e1,convert,Sem.run_bind,run_underlying KG,run_underlying qa,Result.andThen_ok];cases d<;>simp
  ·rename_i a1 m c d e1 KG qa;split at h
   ·cases h;have ho:=ka H hG hk (dm _ rfl);exact Yr.run λw' hw=>by simp[execOp,H.ev hG e1,ho w' hw]
   ·cases h
  ·cases h
 ·
  split at h
  ·rename_i vs e1;obtain⟨hv,_⟩:=sI h;refine Yr.run λw' _=>?_;have:(Array.mk vs)[‹Nat›]?=some out.v:=by simpa using hv
   simp[execOp,H.ev hG e1,Instr.extract,this]
  ·cases h
 ·
  split at h
  ·rename_i a1 e1;cases h;exact Yr.run λw' _=>by simp[execOp,H.ev hG e1]
  ·rename_i f a1 c1 e1;cases h;exact Yr.run λw' _=>by simp[execOp,H.ev hG e1]
  ·rename_i nm t1 x1 c1 e1;cases h;have ho:=dm _ rfl;exact Yr.run λw' _=>by simp[execOp,H.ev hG e1,ho w']
  ·cases h
 ·
  rename_i T1 y1;split at h
  ·cases h
  ·rename_i v1 d hd e1 hu;cases h;refine Yr.run λw' _=>?_;have hr:(Instr.makeInterface T1 v1).run P w'=.ok (.iface T1 v1) w':=by
    simp only[Instr.makeInterface,Sem.run_bind,run_underlying hu,Result.andThen_ok];cases d<;>first|rfl|exact(hd _ rfl).elim
   simp[execOp,H.ev hG e1,hr]
  ·cases h
 ·
  split at h
  ·rename_i t1 v1 want e1 hu;split at h
   ·rename_i hm;cases h;obtain⟨inf,hi,VR⟩:=Option.map_eq_some_iff.1 hm;refine Yr.run λw' _=>?_;rename_i okk _ _ _ _ _ _;simp[execOp,H.ev hG e1,Instr.typeAssert,run_underlying hu,typeInfo,hi,VR]
   ·cases h
  ·cases h
 ·
  split at h
  ·rename_i b off fs e1 hu;split at h
   ·rename_i fd hf;split at h
    ·rename_i z hz;cases h;refine Yr.run λw' _=>?_;have sJ:∀w,(sizeOf fd.type).run P w=.ok (z+1) w:=λw=>ke hz;simp[execOp,H.ev hG e1,Instr.fieldAt,run_underlying hu,hf,Instr.sureAddr,fieldPlace,sJ,Addr.add_zero']
    ·cases h
   ·cases h
  ·cases h
 ·
  split at h
  ·rename_i s1 k m e1 e2 hu;cases h;have ho:=ka H hG hk (dm _ rfl);exact Yr.run λw' _=>by simp[execOp,H.ev hG e1,H.ev hG e2,a3J hu ho.1 ho.2]
  ·rename_i cs k m len e e1 e2 hu;split at h
   ·rename_i k2 q k3 hq hz he;cases hb:Nat.beq q.length len with
    |false=>rw[hb]at h;cases h
    |true=>
     rw[hb]at h;simp only[cond_true,Option.some.injEq]at h;subst h;have ho:=ka H hG hk (dm _ rfl);have hlen:=Nat.eq_of_beq_eq_true hb;have lr:=VP hq;have hl:m.toNat<q.length:=by omega
     have hv:pZ P e cs (m.toNat*1)=some (.int k2 (q.getD m.toNat default)):=by
      unfold pZ;rw[he];simp only[Ao,cond_false,Nat.mul_one,lr,List.getElem?_map,List.getElem?_eq_getElem hl,Option.map_some,List.getD_eq_getElem?_getD,Option.getD_some]
     exact Yr.run λw' _=>by
      have hp:=yB (w:=w') hv;simp only[execOp,H.ev hG e1,H.ev hG e2,Instr.index,asIntOf,Sem.run_bind,Sem.run_pure,Result.andThen_ok,run_underlying hu];rw[if_pos ho];simp only[Sem.run_bind,ke hz,Result.andThen_ok,hp]
   ·rename_i k2 q z m2 e3 hq hz he;cases hb:Nat.beq q.length (len*z)with
    |false=>rw[hb]at h;cases h
    |true=>
     rw[hb]at h;simp only[cond_true,Option.some.injEq]at h;subst h;have ho:=ka H hG hk (dm _ rfl);have hlen:=Nat.eq_of_beq_eq_true hb;have lr:=VP hq;have hl:m.toNat*z+z≤q.length:=by
      have h1:(m.toNat+1)*z≤len*z:=Nat.mul_le_mul_right _ (by omega);rw[Nat.add_mul,Nat.one_mul]at h1;omega
     have hv:pZ P e cs (m.toNat*z)=some (.agg ⟨KA k2 q z m⟩):=by
      unfold pZ;rw[he];simp only[Ao,cond_true,hz];rw[lr,a3G hl]
     exact Yr.run λw' _=>by
      have hp:=yB (w:=w') hv;simp only[execOp,H.ev hG e1,H.ev hG e2,Instr.index,asIntOf,Sem.run_bind,Sem.run_pure,Result.andThen_ok,run_underlying hu];rw[if_pos ho];simp only[Sem.run_bind,ke hz,Result.andThen_ok,hp]
   ·split at h
    ·cases h;have ho:=ka H hG hk (dm _ rfl);exact Yr.run λw' _=>by simp only[execOp,H.ev hG e1,H.ev hG e2,Sem.run_bind,ho w',Result.andThen_ok,Sem.run_pure]
    ·cases h
  ·cases h
 ·
  rename_i t x lo hi;have key:∀(s:List UInt8)(p5 kC:Option Value)(i j:Int),ev l G x=some (.string ⟨⟨s⟩⟩)→P.underlying t=some .string→lo.map a.eval=p5→hi.map a.eval=kC→
    ((p5=none∧i=0)∨∃k,p5=some (.int k i))→((kC=none∧j=ln s)∨∃k,kC=some (.int k j))→0≤i→i≤j→j≤ln s→∀w',
    (execOp a.eval ⟨dst,.slice t x lo hi none,ty,pos,after,guard⟩).run P w'=.ok (.value (.string ⟨⟨V.sub s i j⟩⟩)) w':=by
   intro s p5 kC i j e1 hu hl hh h1 h2 h3 h4 h5 w';have hr:=a3K (P:=P) (w:=w') hu h1 h2 h3 h4 h5;simp only[execOp,H.ev hG e1,Instr.sliceAt,Sem.run_bind,run_underlying hu,Result.andThen_ok,hl,hh,Option.map_none];rw[hr];rfl
  have yD:∀(y:Option Operand),rl l G y=some none→y.map a.eval=none:=by
   intro y hy;cases y with
   |none=>rfl
   |some z=>
    simp only[rl]at hy;split at hy<;>cases hy
  have opts:∀(y:Option Operand) v,rl l G y=some (some v)→y.map a.eval=some v:=by
   intro y v hy;cases y with
   |none=>simp[rl]at hy
   |some z=>
    simp only[rl]at hy;split at hy
    ·rename_i u hu;simp only[Option.some.injEq]at hy;subst hy;simp[H.ev hG hu]
    ·cases hy
  split at h
  ·rename_i s1 e1 el eh hu;cases h;refine Yr.run λw' _=>?_;have:=key s1 _ _ 0 (ln s1) e1 hu (yD _ el) (yD _ eh) (.inl ⟨rfl,rfl⟩) (.inl ⟨rfl,rfl⟩) (by omega) (by unfold ln;omega) (by omega) w';rw[this];simp[V.sub,ln]
  ·rename_i s1 k m e1 el eh hu;cases h;have ho:=ka H hG hk (dm _ rfl);exact Yr.run λw' _=>key s1 _ _ m (ln s1) e1 hu (opts _ _ el) (yD _ eh) (.inr ⟨_,rfl⟩) (.inl ⟨rfl,rfl⟩) ho.1 ho.2 (by omega) w'
  ·rename_i s1 k m e1 el eh hu;cases h;have ho:=ka H hG hk (dm _ rfl);exact Yr.run λw' _=>key s1 _ _ 0 m e1 hu (yD _ el) (opts _ _ eh) (.inl ⟨rfl,rfl⟩) (.inr ⟨_,rfl⟩) (by omega) ho.1 ho.2 w'
  ·rename_i s1 k m k' m' e1 el eh hu;cases h;have ho:=ka H hG hk (dm _ rfl);exact Yr.run λw' _=>key s1 _ _ m m' e1 hu (opts _ _ el) (opts _ _ eh) (.inr ⟨_,rfl⟩) (.inr ⟨_,rfl⟩) ho.1 ho.2.1 ho.2.2 w'
  ·rename_i b off k i len e e1 el eh hu;split at h
   ·rename_i z hz;cases h;have ho:=ka H hG hk (dm _ rfl);refine Yr.run λw' _=>?_;have sJ:∀w,(sizeOf e).run P w=.ok (z+1) w:=λw=>ke hz;have h2:i≤(len:Int):=by omega
    have h3:¬len=i.toNat:=by omega
    simp[execOp,H.ev hG e1,Instr.sliceAt,run_underlying hu,Instr.sureAddr,opts _ _ el,yD _ eh,Instr.sliceBounds,Instr.sliceBound,asIntOf,ho.1,h2,sJ,h3,Addr.add_zero']
   ·cases h
  ·rename_i b off k j len e e1 el eh hu;split at h
   ·rename_i z hz;cases h;have ho:=ka H hG hk (dm _ rfl);refine Yr.run λw' _=>?_;have sJ:∀w,(sizeOf e).run P w=.ok (z+1) w:=λw=>ke hz;have h2:j≤(len:Int):=ho.2;simp[execOp,H.ev hG e1,Instr.sliceAt,run_underlying hu,Instr.sureAddr,yD _ el,opts _ _ eh,Instr.sliceBounds,Instr.sliceBound,asIntOf,ho.1,h2,sJ,Addr.add_zero']
   ·cases h
  ·rename_i a1 m c p5 kC d e1 el eh hu;split at h
   ·cases h;have ho:=ka H hG hk (dm _ rfl);have el':lo.map a.eval=p5:=by cases p5 with|none=>exact yD _ el|some _=>exact opts _ _ el
    have eh':hi.map a.eval=kC:=by cases kC with|none=>exact yD _ eh|some _=>exact opts _ _ eh
    exact Yr.run λw' _=>by simp only[execOp,H.ev hG e1,el',eh',Option.map_none,Sem.run_bind,ho w',Result.andThen_ok,Sem.run_pure]
   ·cases h
  ·cases h
 ·
  split at h
  ·rename_i a1 m c k i e e1 e2 hu;split at h
   ·rename_i z hz;cases h;have ho:=ka H hG hk (dm _ rfl);refine Yr.run λw' _=>?_;have sJ:∀w,(sizeOf e).run P w=.ok (z+1) w:=λw=>ke hz;have As:=H.ev hG e1;have hoa:a1=some ⟨ab a1,ao a1,none⟩:=ho.1;rw[hoa]at As;simp[execOp,As,H.ev hG e2,Instr.indexAt,asIntOf,run_underlying hu,ho.2,sJ,Addr.add_zero']
   ·cases h
  ·rename_i b off k i len e e1 e2 hu;split at h
   ·rename_i z hz;cases h;have ho:=ka H hG hk (dm _ rfl);refine Yr.run λw' _=>?_;have sJ:∀w,(sizeOf e).run P w=.ok (z+1) w:=λw=>ke hz;simp[execOp,H.ev hG e1,H.ev hG e2,Instr.indexAt,asIntOf,run_underlying hu,Instr.sureAddr,ho,sJ,Addr.add_zero']
   ·cases h
  ·cases h
 ·
  rename_i t x;split at h
  ·rename_i b off v OR e1;split at h
   ·rename_i fs cs hu;cases hc:decide ((P.info? t).map (·.size)=some cs.length)with
    |false=>rw[hc]at h;cases h
    |true=>
     rw[hc]at h;simp only[cond_true,Option.some.injEq]at h;subst h;have ho:=ka H hG hk (dm _ rfl);exact Yr.run λw' hw=>by simp[execOp,H.ev hG e1,VN hu rfl (by simpa using hc) hw ho]
   ·rename_i cs hu;cases hc:decide ((P.info? t).map (·.size)=some cs.length)with
    |false=>rw[hc]at h;cases h
    |true=>
     rw[hc]at h;simp only[cond_true,Option.some.injEq]at h;subst h;have ho:=ka H hG hk (dm _ rfl);exact Yr.run λw' hw=>by simp[execOp,H.ev hG e1,VN hu rfl (by simpa using hc) hw ho]
   ·cases h
   ·cases h
   ·rename_i d jD kD hu hn3 hn4;cases h;have ho:=ka H hG hk (dm _ rfl);refine Yr.run λw' hw=>?_;have hr:=a3L (P:=P) hu (by cases d<;>simp_all) hw ho;simp[execOp,H.ev hG e1,hr]
   ·cases h
  ·cases h
 ·
  split at h
  ·rename_i fs cs e1 e2;cases h;exact Yr.run λw' _=>by simp[execOp,yy H hG e1,yy H hG e2,Instr.makeFunc]
  ·cases h
 ·
  rename_i c;obtain⟨cal,args,ns⟩:=c;split at h
  ·rename_i sK;simp only at sK h;subst sK;split at h
   ·rename_i x t hx ht;obtain rfl:args=#[x]:=by cases args;simp_all
    obtain rfl:ns=#[t]:=by cases ns;simp_all
    split at h
    ·rename_i s1 e1 hu;cases h;refine Yr.run λw' _=>?_;have hs:(ByteArray.mk ⟨s1⟩).size=s1.length:=rfl;simp[execOp,resolve,invoke,H.ev hG e1,builtin,Builtin.len_,run_underlying hu,goInt,ln,hs]
    ·rename_i a1 m c1 d e1 hu;cases h;refine Yr.run λw' _=>?_;simp[execOp,resolve,invoke,H.ev hG e1,builtin,Builtin.len_,run_underlying hu,goInt]
    ·rename_i m d hu;cases h;refine Yr.run λw' _=>?_;simp[execOp,resolve,invoke,builtin,Builtin.len_,run_underlying hu,goInt]
    ·cases h
   ·cases h
  ·rename_i sK;simp only at sK h;subst sK;split at h
   ·rename_i vs e1;obtain⟨hv,_⟩:=sI h;exact Yr.run λw' _=>by simp only[execOp,resolve,yy H hG e1,Sem.run_bind,Sem.run_pure,Result.andThen_ok,invoke];exact VM hv
   ·cases h
  ·rename_i sK;simp only at sK h;subst sK;split at h
   ·rename_i vs e1;obtain⟨hv,_⟩:=sI h;exact Yr.run λw' _=>by simp only[execOp,resolve,yy H hG e1,Sem.run_bind,Sem.run_pure,Result.andThen_ok,invoke];exact VM hv
   ·cases h
  ·rename_i x sK;simp only at sK h;subst sK;split at h
   ·rename_i f first o5 as v OR e1 e2
    cases h;have ho:=ka H hG hk (dm _ rfl);unfold callee at e1;split at e1
    ·rename_i f' fi ca e3;simp only[Option.some.injEq,Prod.mk.injEq]at e1;obtain⟨rfl,rfl,rfl⟩:=e1;refine .inr ⟨rfl,?_⟩;intro w' hw;unfold Oper.quietAt;rcases ho with ho|ho
     ·have hr:(execOp a.eval ⟨dst,.call ⟨.value x,args,ns⟩,ty,pos,after,guard⟩).run P w'=.ok (.enter f' ⟨fi++as++ca⟩) w':=by
       simp only[execOp,resolve,Deferred.ofValue,H.ev hG e3,yy H hG e2,Sem.run_bind,Sem.run_pure,Result.andThen_ok,invoke];have:=ho.call w';simpa using this
      rw[hr];exact⟨rfl,(ho.run w' hw).mono λe kB h=>⟨h.1,hw.trans (h.2.mono hw.size)⟩⟩
     ·have hr:(execOp a.eval ⟨dst,.call ⟨.value x,args,ns⟩,ty,pos,after,guard⟩).run P w'=.ok (.value v) w':=by
       simp only[execOp,resolve,Deferred.ofValue,H.ev hG e3,yy H hG e2,Sem.run_bind,Sem.run_pure,Result.andThen_ok,invoke];have:=ho w' hw;simpa using this
      rw[hr];exact⟨rfl,rfl⟩
    ·cases e1
   ·cases h
  ·cases h
 ·cases h
theorem a3R{P:Program}{n:Nat}{l:SF}{a:Act}{G:fw}{w:World}{op:Op}{os:List Value}{out:Out}{dst:Option Tmp}{ty:TypeId}{pos:String}{after:Array Edge}{guard:Option (Nat×Bool)}
  (H:ay D n l a)(hG:iB a G)(hk:wu l G G=true)(h:step1 P l G op os=some out)(dm:∀ob,out.ob=some ob→ob w):Yields P ⟨dst,op,ty,pos,after,guard⟩ a w out.v:=(a3Q H hG hk h dm).VQ
theorem a3S{P:Program}{n:Nat}{l:SF}{a:Act}{G:fw}{w:World}{c x y:Operand}{v:Value}{dst:Option Tmp}{ty:TypeId}{pos:String}{after:Array Edge}{guard:Option (Nat×Bool)}
  (H:ay D n l a)(hG:iB a G)(h:KC l G c x y=some v):Yr P ⟨dst,.pick c x y,ty,pos,after,guard⟩ a w v:=by
 unfold KC at h;split at h
 ·rename_i s;have slot:∀t,ev l G (.tmp s)=some (.bool t)→a.tmps[s]?=some (.bool t):=by
   intro t e1;simp only[V.ev]at e1;split at e1
   ·rename_i C u he;cases Gn:o4 C G with
    |false=>rw[Gn]at e1;cases e1
    |true=>
     rw[Gn]at e1;simp only[cond_true,Option.some.injEq]at e1;subst e1;exact(H.2.2 _ (oZ he)).1 (Gd Gn hG)
   ·cases e1
  have VS:∀{x v},ev l G (.tmp s)=some (.bool true)→ev l ((s,true)::G) x=some v→a.eval x=v:=λe1 e2=>
   H.ev (G:=(s,true)::G) (λp hp=>by rcases List.mem_cons.1 hp with rfl|hp;exact slot _ e1;exact hG p hp) e2
  have VT:∀{x v},ev l G (.tmp s)=some (.bool false)→ev l ((s,false)::G) x=some v→a.eval x=v:=λe1 e2=>
   H.ev (G:=(s,false)::G) (λp hp=>by rcases List.mem_cons.1 hp with rfl|hp;exact slot _ e1;exact hG p hp) e2
  split at h
  ·rename_i t p q e1 e2 e3;cases h;have ec:=H.ev hG e1;refine Yr.run λw' _=>?_;cases t with
   |true=>simp[execOp,ec,VS e1 e2,asBool]
   |false=>simp[execOp,ec,VT e1 e3,asBool]
  ·rename_i q e1 e3 _;cases h;have ec:=H.ev hG e1;exact Yr.run λw' _=>by simp[execOp,ec,VT e1 e3,asBool]
  ·rename_i q _ e1 e2 _;cases h;have ec:=H.ev hG e1;exact Yr.run λw' _=>by simp[execOp,ec,VS e1 e2,asBool]
  ·cases h
 ·cases h
theorem a3T{P:Program}{n:Nat}{l:SF}{a:Act}{G:fw}{w:World}{c x y:Operand}{v:Value}{dst:Option Tmp}{ty:TypeId}{pos:String}{after:Array Edge}{guard:Option (Nat×Bool)}
  (H:ay D n l a)(hG:iB a G)(h:KC l G c x y=some v):Yields P ⟨dst,.pick c x y,ty,pos,after,guard⟩ a w v:=(a3S H hG h).VQ
def OS(all:List Oper)(l:SF):Option (Nat×Bool)→Option fw
 |none=>some []
 |some (j,want)=>match all[j]? with
  |some o=>match o.dst with
   |some g=>match dF l g with
    |some (C,.bool _)=>some ((g,want)::C)
    |_=>none
   |none=>none
  |none=>none
def At(P:Program)(l:SF)(G:fw)(op:Op)(os:List Value):Option Out:=
 match op with
 | .pick c x y=>pY (KC l G c x y) os
 |_=>step1 P l G op os
def a3U:Option Ob→List Ob→List Ob
 |none,r=>r
 |some o,r=>o::r
def o7(P:Program)(n:Nat)(all:List Oper):List Oper→Nat→List Value→SF→Option (SF×List Ob)
 |_,0,_,l=>some (l,[])
 |[],_+1,_,_=>none
 |o::rest,m+1,os,l=>
  match OS all l o.guard with
  |some G=>
   match wu l G G,At P l G o.op os with
   |true,some out=>
    match o.dst with
    |some d=>
     match Nat.blt d n&&G.all λp=>!(Nat.beq p.1 d)with
     |true=>
      match o7 P n all rest m out.os (jC l d G out.v)with
      |some (l',r)=>some (l',a3U out.ob r)
      |none=>none
     |false=>none
    |none=>none
   |_,_=>none
  |none=>none
def p6:List Ob→World→Prop
 |[],_=>True
 |o::r,w=>o w∧p6 r w
theorem VU{n:Nat}{all:List Oper}{l:SF}{a:Act}(H:ay D n l a){g:Option (Nat×Bool)}{G:fw}(h:OS all l g=some G){dst:Option Tmp}{op:Op}{ty:TypeId}{pos:String}{after:Array Edge}:
  (Region.wanted ⟨dst,op,ty,pos,after,g⟩ (yielded all.toArray a.tmps)=true↔iB a G):=by
 unfold OS at h;split at h
 ·cases h;simp[Region.wanted,iB]
 ·rename_i j want;split at h
  ·rename_i o ho;split at h
   ·rename_i s hs;split at h
    ·rename_i C b he;cases h;have h1:=H.2.2 _ (oZ he);have hy:yielded all.toArray a.tmps j=(match a.tmps[s]? with|some (.bool b)=>some b|_=>none):=by
      unfold yielded;rw[show((all.toArray[j]?).bind (·.dst))=some s from by simp[ho,hs]];rfl
     simp only[Region.wanted,hy];constructor
     ·intro hw;by_cases hC:iB a C
      ·have:=h1.1 hC;dsimp only at this;rw[this]at hw;simp only[beq_iff_eq,Option.some.injEq]at hw;subst hw;intro p hp;rcases List.mem_cons.1 hp with rfl|hp
       ·exact this
       ·exact hC p hp
      ·have:=h1.2 hC;dsimp only at this;rw[this]at hw;simp[undef]at hw
     ·intro hk;have:=hk _ List.mem_cons_self;dsimp only at this;rw[this];simp
    ·cases h
   ·cases h
  ·cases h
theorem OT{P:Program}{n:Nat}{l:SF}{a:Act}{G:fw}{w:World}{op:Op}{os:List Value}{out:Out}{dst:Option Tmp}{ty:TypeId}{pos:String}{after:Array Edge}{guard:Option (Nat×Bool)}
  (H:ay D n l a)(hG:iB a G)(hk:wu l G G=true)(h:At P l G op os=some out)(dm:∀ob,out.ob=some ob→ob w):Yields P ⟨dst,op,ty,pos,after,guard⟩ a w out.v:=by
 unfold At at h;split at h
 ·obtain⟨hv,_⟩:=sI h;exact a3T H hG hv
 ·exact a3R H hG hk h dm
theorem OU{P:Program}{n:Nat}{all:List Oper}{w:World}{Q:Act→Prop}:∀(m:Nat)(rest:List Oper)(os:List Value)(l l':SF)(dS:List Ob)(a:Act),
  o7 P n all rest m os l=some (l',dS)→p6 dS w→ay D n l a→(∀a',ay D n l' a'→wpQuiet P all.toArray (λw'=>Below w.heap.size w w') Q (rest.drop m) a')→
  wpQuiet P all.toArray (λw'=>Below w.heap.size w w') Q rest a
 |0,rest,os,l,l',dS,a,h,_,H,hK=>by
  simp[o7]at h;obtain⟨rfl,rfl⟩:=h;exact hK a H
 |m+1,[],os,l,l',dS,a,h,_,_,_=>by simp[o7]at h
 |m+1,o::rest,os,l,l',dS,a,h,dm,H,hK=>by
  obtain⟨dst,op,ty,pos,after,guard⟩:=o;unfold o7 at h;split at h
  ·rename_i G hG;split at h
   ·rename_i out Dp jE;split at h
    ·rename_i d hd;split at h
     ·rename_i iN;simp only[Bool.and_eq_true]at iN;split at h
      ·rename_i l2 r hr;simp only[Option.some.injEq,Prod.mk.injEq]at h;obtain⟨rfl,rfl⟩:=h;obtain rfl:dst=some d:=hd;have Au:p6 r w∧∀ob,out.ob=some ob→ob w:=by
        cases ho:out.ob with
        |none=>rw[ho]at dm;exact⟨dm,λob e=>by cases e⟩
        |some ob=>rw[ho]at dm;exact⟨dm.2,λob' e=>by cases e;exact dm.1⟩
       have hw:=VU (dst:=some d) (op:=op) (ty:=ty) (pos:=pos) (after:=after) H hG;unfold wpQuiet;by_cases hc:iB a G
       ·rw[if_pos (hw.2 hc)];exact⟨out.v,OT H hc Dp jE Au.2,OU m rest _ _ _ _ _ hr Au.1 (H.put iN.1 iN.2 (λ_=>rfl) (λx=>absurd hc x)) hK⟩
       ·rw[if_neg (λx=>hc (hw.1 x))];exact OU m rest _ _ _ _ _ hr Au.1 (H.put iN.1 iN.2 (λx=>absurd x hc) (λ_=>rfl)) hK
      ·cases h
     ·cases h
    ·cases h
   ·cases h
  ·cases h
theorem a3V{P:Program}{n id:Nat}{all:List Oper}{Q:Exit→Act→World→Prop}{a:Act}{w:World}{l l':SF}{os:List Value}{dS:List Ob}(ks:List Nat){lk:SF}
  (H:ay D n l a)(hm:P.follows .mixedOrders=true)(hB:Region.lexB .any all.toArray=true)(he:o7 P n all all all.length os l=some (l',dS))(hk:aV l' ks=some lk)(dm:p6 dS w)
  (hK:∀a' w',ay D n lk a'→Below w.heap.size w w'→Q .normal a' w'):(Code.region id all.toArray true).wp P Q a w:=by
 refine wp_region_quiet (C:=λw'=>Below w.heap.size w w') hm hB ⟨rfl,rfl,rfl,Nat.le_refl _,λ_ _=>rfl⟩ ?_;refine OU all.length all os l l' dS a he dm H ?_;intro a' H';simp only[List.drop_length];exact λw' hw=>hK a' w' (H'.aV hk) hw
theorem Gp{P:Program}{n:Nat}{all:List Oper}{Q:Exit→Act→World→Prop}:∀(m:Nat)(rest:List Oper)(os:List Value)(l l':SF)(dS:List Ob)(a:Act)(w0 w:World),
  Below w0.heap.size w0 w→
  o7 P n all rest m os l=some (l',dS)→p6 dS w0→ay D n l a→(∀a' w',ay D n l' a'→Below w0.heap.size w0 w'→wpList P all.toArray Q (rest.drop m) a' w')→
  wpList P all.toArray Q rest a w
 |0,rest,os,l,l',dS,a,w0,w,hb,h,_,H,hK=>by
  simp[o7]at h;obtain⟨rfl,rfl⟩:=h;exact hK a w H hb
 |m+1,[],os,l,l',dS,a,w0,w,hb,h,_,_,_=>by simp[o7]at h
 |m+1,o::rest,os,l,l',dS,a,w0,w,hb,h,dm,H,hK=>by
  obtain⟨dst,op,ty,pos,after,guard⟩:=o;unfold o7 at h;split at h
  ·rename_i G hG;split at h
   ·rename_i out Dp jE;split at h
    ·rename_i d hd;split at h
     ·rename_i iN;simp only[Bool.and_eq_true]at iN;split at h
      ·rename_i l2 r hr;simp only[Option.some.injEq,Prod.mk.injEq]at h;obtain⟨rfl,rfl⟩:=h;obtain rfl:dst=some d:=hd;have Au:p6 r w0∧∀ob,out.ob=some ob→ob w0:=by
        cases ho:out.ob with
        |none=>rw[ho]at dm;exact⟨dm,λob e=>by cases e⟩
        |some ob=>rw[ho]at dm;exact⟨dm.2,λob' e=>by cases e;exact dm.1⟩
       have hw:=VU (dst:=some d) (op:=op) (ty:=ty) (pos:=pos) (after:=after) H hG;unfold wpList;by_cases hc:iB a G
       ·rw[if_pos (hw.2 hc)];left;have hy:(⟨some d,op,ty,pos,after,guard⟩:Oper).quiet P a (λkB=>Below w0.heap.size w0 kB) (λa'=>ay D n (jC l d G out.v) a'):=
         ⟨out.v,OT H hc Dp jE Au.2,H.put iN.1 iN.2 (λ_=>rfl) (λx=>absurd hc x)⟩
        exact Oper.wp_of_quiet (C:=λkB=>Below w0.heap.size w0 kB) hb (λa' w' Aw H'=>Gp m rest _ _ _ _ a' w0 w' Aw hr Au.1 H' hK) hy
       ·rw[if_neg (λx=>hc (hw.1 x))];exact Gp m rest _ _ _ _ _ w0 w hb hr Au.1 (H.put iN.1 iN.2 (λx=>absurd x hc) (λ_=>rfl)) hK
      ·cases h
     ·cases h
    ·cases h
   ·cases h
  ·cases h
theorem Below.rfl'(w:World):Below w.heap.size w w:=Below.refl _ _
theorem a3W{P:Program}{n id:Nat}{all:List Oper}{Q:Exit→Act→World→Prop}{a:Act}{w:World}{l l':SF}{os:List Value}{dS:List Ob}(ks:List Nat){lk:SF}
  (H:ay D n l a)(he:o7 P n all all all.length os l=some (l',dS))(hk:aV l' ks=some lk)(dm:p6 dS w)
  (hK:∀a' w',ay D n lk a'→Below w.heap.size w w'→Q .normal a' w'):(Code.region id all.toArray false).wp P Q a w:=by
 refine wp_region_lit (Gp all.length all os l l' dS a w w (Below.rfl' w) he dm H ?_);intro a' w' H' hw;simp only[List.drop_length];exact hK a' w' (H'.aV hk) hw
def gY(P:Program)(n:Nat)(all:List Oper)(os:List Value)(l:SF)(ks:List Nat):Option (SF×List Ob):=
 match o7 P n all all all.length os l with
 |some (l',dS)=>match aV l' ks with
  |some lk=>some (lk,dS)
  |none=>none
 |none=>none
theorem VV{P:Program}{n:Nat}{all:List Oper}{os:List Value}{l:SF}{ks:List Nat}{lk:SF}{dS:List Ob}(h:gY P n all os l ks=some (lk,dS)):
  ∃l',o7 P n all all all.length os l=some (l',dS)∧aV l' ks=some lk:=by
 unfold gY at h;split at h
 ·rename_i l' VW h1;split at h
  ·rename_i VX h2;simp only[Option.some.injEq,Prod.mk.injEq]at h;obtain⟨rfl,rfl⟩:=h;exact⟨l',h1,h2⟩
  ·cases h
 ·cases h
abbrev dx:=Act→World→Prop
def Ax:List (Nat×dx)→Nat→Option dx
 |[],_=>none
 |e::r,i=>cond (Nat.beq e.1 i) (some e.2) (Ax r i)
def Qs(N:dx)(ES:List (Nat×dx))(R:dx):Exit→Act→World→Prop
 | .normal,a,w=>N a w
 | .exit i,a,w=>match Ax ES i with
  |some E=>E a w
  |none=>False
 | .ret,a,w=>R a w
 |_,_,_=>False
section
variable {P:Program} {N R:dx} {ES:List (Nat×dx)} {a:Act} {w:World} {n:Nat} {l:SF}
theorem p7{x y:Code}(h:x.wp P (Qs (λa w=>y.wp P (Qs N ES R) a w) ES R) a w):(Code.seq x y).wp P (Qs N ES R) a w:=
 wp_seq (wp_mono h λe a w q=>by cases e<;>exact q)
theorem kF{x y:Code}(M:dx)(h:x.wp P (Qs M ES R) a w)(h2:∀a w,M a w→y.wp P (Qs N ES R) a w):(Code.seq x y).wp P (Qs N ES R) a w:=
 p7 (wp_mono h λe a w q=>by cases e<;>first|exact h2 _ _ q|exact q)
theorem OV(h:N a w):Code.skip.wp P (Qs N ES R) a w:=wp_skip h
theorem Ay(h:R a w):Code.ret.wp P (Qs N ES R) a w:=wp_ret h
theorem a3X{i:Nat}{E:dx}(hi:Ax ES i=some E)(h:E a w):(Code.exit i).wp P (Qs N ES R) a w:=
 wp_exit (by
  have e:Qs N ES R (.exit i) a w=(match Ax ES i with|some E=>E a w|none=>False):=rfl;rw[e,hi];exact h)
theorem a3Y{i:Nat}{c:Code}(h:c.wp P (Qs N ((i,N)::ES) R) a w):(Code.block i c).wp P (Qs N ES R) a w:=
 wp_block (wp_mono h λe a w q=>by
  cases e with
  |exit j=>
   simp only[Exit.inBlock];by_cases hj:j=i
   ·subst hj;rw[if_pos rfl];have q':N a w:=by
     unfold Qs Ax at q;simpa using q
    exact q'
   ·rw[if_neg hj];unfold Qs Ax at q;have:Nat.beq i j=false:=by
     cases hb:Nat.beq i j
     ·rfl
     ·exact absurd (Nat.eq_of_beq_eq_true hb).symm hj
    simp only[this,cond_false]at q;exact q
  |_=>exact q)
theorem yE{c:Operand}{x y:Code}{t:Bool}(H:ay D n l a)(hc:ev l [] c=some (.bool t))(h1:t=true→x.wp P (Qs N ES R) a w)(h2:t=false→y.wp P (Qs N ES R) a w):
  (Code.cond c x y).wp P (Qs N ES R) a w:=
 wp_cond_split (H.ev (G:=[]) (λ_ h=>by cases h) hc) h1 h2
theorem OW{id:Nat}{all:List Oper}(os:List Value)(ks:List Nat)(lk:SF)(dS:List Ob)
  (H:ay D n l a)(he:gY P n all os l ks=some (lk,dS))(dm:p6 dS w)
  (hK:∀a' w',ay D n lk a'→Below w.heap.size w w'→N a' w'):(Code.region id all.toArray false).wp P (Qs N ES R) a w:=
 let⟨_,h1,h2⟩:=VV he
 a3W ks H h1 h2 dm hK
theorem VY{id:Nat}{all:List Oper}(os:List Value)(ks:List Nat)(lk:SF)(dS:List Ob)
  (H:ay D n l a)(hm:P.follows .mixedOrders=true)(hB:Region.lexB .any all.toArray=true)(he:gY P n all os l ks=some (lk,dS))(dm:p6 dS w)
  (hK:∀a' w',ay D n lk a'→Below w.heap.size w w'→N a' w'):(Code.region id all.toArray true).wp P (Qs N ES R) a w:=
 let⟨_,h1,h2⟩:=VV he
 a3V ks H hm hB h1 h2 dm hK
theorem kT{id:Nat}{all:List Oper}{y:Code}(os:List Value)(ks:List Nat)(lk:SF)(dS:List Ob)
  (H:ay D n l a)(he:gY P n all os l ks=some (lk,dS))(dm:p6 dS w)
  (hK:∀a' w',ay D n lk a'→Below w.heap.size w w'→y.wp P (Qs N ES R) a' w'):(Code.seq (.region id all.toArray false) y).wp P (Qs N ES R) a w:=p7 (OW os ks lk dS H he dm hK)
theorem a3Z{id:Nat}{all:List Oper}{y:Code}(os:List Value)(ks:List Nat)(lk:SF)(dS:List Ob)
  (H:ay D n l a)(hm:P.follows .mixedOrders=true)(hB:Region.lexB .any all.toArray=true)(he:gY P n all os l ks=some (lk,dS))(dm:p6 dS w)
  (hK:∀a' w',ay D n lk a'→Below w.heap.size w w'→y.wp P (Qs N ES R) a' w'):(Code.seq (.region id all.toArray true) y).wp P (Qs N ES R) a w:=p7 (VY os ks lk dS H hm hB he dm hK)
theorem nu{c:Code}(I:Nat→dx)(h0:∃m,I m a w)
  (round:∀m a w,I m a w→c.wp P (Qs (λa' w'=>∃m',m'<m∧I m' a' w') ES R) a w):(Code.loop c).wp P (Qs N ES R) a w:=by
 intro b k cs;have key:∀m a w,I m a w→
   ∃e a' w',Qs N ES R e a' w'∧Arrives P (lone (b.at a (.code c::.inLoop c::k)) cs w) b k cs e a' w':=by
  intro m
  induction m using Nat.strongRecOn with
  |_ m ih=>
   intro a w hI;obtain⟨e,a₁,w₁,hq,lu⟩:=round m a w hI b (.inLoop c::k) cs;cases e with
   |normal=>
    obtain⟨m',aM,hI₁⟩:=hq;obtain⟨e₂,a₂,w₂,OX,OY⟩:=ih m' aM a₁ w₁ hI₁;exact⟨e₂,a₂,w₂,OX,.of_steps (Steps.trans lu (.one step_inLoop)) OY⟩
   |exit id=>exact⟨.exit id,a₁,w₁,hq,.pass (x:=.inLoop c) rfl (λ_ _=>.inl (by simp)) lu⟩
   |goto l=>exact⟨.goto l,a₁,w₁,hq,.pass (x:=.inLoop c) rfl (λ_ _=>.inl (by simp)) lu⟩
   |ret=>exact⟨.ret,a₁,w₁,hq,.pass (x:=.inLoop c) rfl (λ_ _=>.inl (by simp)) lu⟩
   |panic ch=>exact⟨.panic ch,a₁,w₁,hq,.pass (x:=.inLoop c) rfl (λ_ _=>.inl (by simp)) lu⟩
   |outgrown=>exact⟨.outgrown,a₁,w₁,hq,.pass (x:=.inLoop c) rfl (λ_ _=>.inl (by simp)) lu⟩
 obtain⟨m,hm⟩:=h0;obtain⟨e,a',w',hq,lu⟩:=key m a w hm;exact⟨e,a',w',hq,.of_steps (.one step_loop) lu⟩
end
def wx:List Value→Nat→SF
 |[],_=>[]
 |v::r,i=>(i,[],v)::wx r (i+1)
theorem a41{vs:List Value}{i:Nat}{e:Nat×fw×Value}(h:e∈wx vs i):e.2.1=[]∧i≤e.1∧vs[e.1-i]?=some e.2.2:=by
 induction vs generalizing i with
 |nil=>simp[wx]at h
 |cons v r ih=>
  rcases List.mem_cons.1 h with rfl|h
  ·simp
  ·obtain⟨h1,h2,h3⟩:=ih h;refine⟨h1,by omega,?_⟩;rw[show e.1-i=(e.1-(i+1))+1 from by omega];simpa using h3
def Rt(fn:Func)(R:Ending→World→Prop):dx:=λa w=>a.defers=[]∧∀P:Program,∃v,(results fn a.tmps).run P w=.ok v w∧R (.returned v) w
theorem ay.tmp{n:Nat}{l:SF}{a:Act}(H:ay D n l a){t:Nat}{v:Value}(h:dF l t=some ([],v)):a.tmps.getD t undef=v:=by
 have:=(H.2.2 _ (oZ h)).1 (λp hp=>by cases hp);dsimp only at this;rw[Array.getD_eq_getD_getElem?,this];rfl
def Pure(v:Value)(w:World)(e:Ending)(w':World):Prop:=e=.returned v∧Below w.heap.size w w'
theorem a42{P:Program}{f:FuncId}{args:Array Value}{v:Value}(hc:∀w,(callFunc f args).run P w=.ok (.enter f args) w)(h:∀w,Calls P f args w (Pure v w)):wv P f args v:=
 ⟨hc,h⟩
theorem bT{α:Type}{c:Bool}{x y r:α}(hc:c=true)(h:cond c x y=r):x=r:=by subst hc;exact h
theorem bF{α:Type}{c:Bool}{x y r:α}(hc:c=false)(h:cond c x y=r):y=r:=by subst hc;exact h
theorem qb{α:Type}{c:Bool}{x y:α}(hc:c=true):cond c x y=x:=by subst hc;rfl
theorem lv{α:Type}{c:Bool}{x y:α}(hc:c=false):cond c x y=y:=by subst hc;rfl
def aB{α:Type}(p:Prop)[Decidable p](k:Option α):Option α:=if p then k else none
theorem bM{α:Type}{p:Prop}[Decidable p]{k:Option α}{r:α}(h:aB p k=some r):p∧k=some r:=by
 unfold aB at h;split at h
 ·rename_i hp;exact⟨hp,h⟩
 ·cases h
theorem au{α β:Type}{x:Option α}{f:α→Option β}{r:β}(h:x.bind f=some r):∃y,x=some y∧f y=some r:=by
 cases x with
 |none=>cases h
 |some y=>exact⟨y,rfl,h⟩
def lt{α β:Type}(e:α)(f:α→β):β:=f e
theorem bN{α β:Type}{e:α}{f:α→β}{r:β}(h:lt e f=r):∃x,x=e∧f x=r:=⟨e,rfl,h⟩
def eY{α β:Type}(z:Sum α β)(k:β→Option α):Option α:=
 match z with
 | .inl r=>some r
 | .inr s=>k s
theorem iC{α β:Type}{s:β}{k:β→Option α}{x:Option α}(h:eY (Sum.inr s) k=x):k s=x:=h
theorem bt{w w1 w2:World}(h:Below w.heap.size w w1)(k:Below w1.heap.size w1 w2):Below w.heap.size w w2:=h.trans (k.mono h.size)
theorem kU{α:Type}{z:α}{p:Prop}(h:(none:Option α)=some z):p:=by cases h
theorem bO{α:Type}{x y:α}(h:some x=some y):x=y:=Option.some.inj h
structure Kp(X:List Nat)(w w':World):Prop where
 os:w'.os=w.os
 tape:w'.tape=w.tape
 output:w'.output=w.output
 size:w.heap.size≤w'.heap.size
 block:∀k,k<w.heap.size→k∉X→w'.heap[k]?=w.heap[k]?
theorem Kp.wy{w w':World}(h:Below w.heap.size w w')(X:List Nat):Kp X w w':=⟨h.os,h.tape,h.output,h.size,λk hk _=>h.block k hk⟩
theorem Kp.below{w w':World}(h:Kp [] w w'):Below w.heap.size w w':=⟨h.os,h.tape,h.output,h.size,λk hk=>h.block k hk (by simp)⟩
theorem Kp.refl(X:List Nat)(w:World):Kp X w w:=⟨rfl,rfl,rfl,Nat.le_refl _,λ_ _ _=>rfl⟩
theorem Kp.trans{X Y:List Nat}{w w1 w2:World}(h:Kp X w w1)(k:Kp Y w1 w2)(hY:∀y∈Y,y∈X∨w.heap.size≤y):Kp X w w2:=
 ⟨k.os.trans h.os,k.tape.trans h.tape,k.output.trans h.output,Nat.le_trans h.size k.size,λi hi hx=>
  (k.block i (Nat.lt_of_lt_of_le hi h.size) (λhy=>by
   rcases hY i hy with h1|h1
   ·exact hx h1
   ·omega)).trans (h.block i hi hx)⟩
theorem Kp.step{X:List Nat}{w w1 w2:World}(h:Kp X w w1)(k:Below w1.heap.size w1 w2):Kp X w w2:=h.trans (Kp.wy k []) (by simp)
structure dh(w:World)(b:Nat)(cs:List Value):Prop where
 lt:b<w.heap.size
 get:∃T,w.heap[b]?=some (.cells ⟨cs⟩ T (0,0))
theorem dh.kp{w w':World}{b:Nat}{cs:List Value}{X:List Nat}(h:dh w b cs)(k:Kp X w w')(hX:b∉X):dh w' b cs:=
 ⟨Nat.lt_of_lt_of_le h.lt k.size,by obtain⟨T,hT⟩:=h.get;exact⟨T,(k.block b h.lt hX).trans hT⟩⟩
theorem dh.below{w w':World}{b:Nat}{cs:List Value}(h:dh w b cs)(k:Below w.heap.size w w'):dh w' b cs:=h.kp (Kp.wy k []) (by simp)
theorem dh.cell{w:World}{b off:Nat}{cs:List Value}(h:dh w b cs):w.cell? ⟨b,off,none⟩=cs[off]?:=by
 obtain⟨T,hT⟩:=h.get;simp[World.cell?,hT]
theorem dh.aQ{w:World}{b off:Nat}{cs:List Value}{v:Value}(h:dh w b cs)(hv:cs[off]?=some v):V.aQ ⟨b,off,none⟩ v w:=⟨by rw[h.cell];exact hv,h.lt⟩
theorem dh.cG{w:World}{b off:Nat}{cs:List Value}(h:dh w b cs):∀(vs:List Value)(j:Nat),(∀i (hi:i<vs.length),cs[off+(j+i)]?=some vs[i])→V.cG b off vs j w
 |[],_,_=>trivial
 |v::r,j,hv=>⟨h.aQ (by have:=hv 0 (by simp);rw[Nat.add_zero]at this;exact this),dh.cG h r (j+1) (λi hi=>by
   have:=hv (i+1) (by simpa using hi);simpa[Nat.add_assoc,Nat.add_comm 1 i]using this)⟩
def iW:List Value→Nat→List Value→List Value
 |cs,_,[]=>cs
 |cs,off,v::r=>iW (cs.set off v) (off+1) r
def o8:List Value→Bool
 |[]=>true
 |v::r=>v.oneCell'&&o8 r
theorem Az{w:World}{b off:Nat}{v:Value}{cs:List Value}{T:TypeId}{fr:Nat×Nat}(h:w.heap[b]?=some (.cells ⟨cs⟩ T fr)):
  (w.setCell ⟨b,off,none⟩ v).heap[b]?=some (.cells ⟨cs.set off v⟩ T fr):=by
 simp[World.setCell,Array.getElem?_modify,h]
theorem qc(w:World)(a:Addr)(v:Value):Kp [a.block] w (w.setCell a v):=
 ⟨rfl,rfl,rfl,by simp[World.setCell],λk _ hx=>Below.heap_setCell w a v k (by simpa using hx)⟩
theorem VZ{P:Program}{b off:Nat}:∀(vs:List Value)(j:Nat)(w:World)(cs:List Value),o8 vs=true→dh w b cs→off+j+vs.length≤cs.length→
  ∃w',(storeCells ⟨b,off,none⟩ vs j).run P w=.ok () w'∧Kp [b] w w'∧dh w' b (iW cs (off+j) vs)
 |[],j,w,cs,_,hb,_=>⟨w,by simp[storeCells],Kp.refl _ _,by simpa[iW]using hb⟩
 |v::r,j,w,cs,ho,hb,hl=>by
  simp only[o8,Bool.and_eq_true]at ho;obtain⟨T,hT⟩:=hb.get;have hj:off+j<cs.length:=by simp at hl;omega
  have hc:w.cell? ⟨b,off+j,none⟩=some cs[off+j]:=by rw[hb.cell];exact List.getElem?_eq_getElem hj
  have hf:w.frozen? ⟨b,off+j,none⟩=false:=by simp[World.frozen?,hT]
  have jE:(store ⟨b,off+j,none⟩ v).run P w=.ok () (w.setCell ⟨b,off+j,none⟩ v):=by
   rw[run_store P w _ v .plain ho.1,hc];simp[hf]
  have iD:dh (w.setCell ⟨b,off+j,none⟩ v) b (cs.set (off+j) v):=
   ⟨by have:=(qc w ⟨b,off+j,none⟩ v).size;exact Nat.lt_of_lt_of_le hb.lt this,T,Az hT⟩
  obtain⟨w',h1,h2,h3⟩:=VZ (P:=P) (off:=off) r (j+1) _ _ ho.2 iD (by simp only[List.length_cons]at hl;simp only[List.length_set];omega);refine⟨w',?_,(qc w ⟨b,off+j,none⟩ v).trans h2 (by simp),h3⟩;simp only[storeCells,Sem.run_bind,Addr.add_zero',jE,Result.andThen_ok];exact h1
section
variable {P:Program} {Q:Exit→Act→World→Prop} {a:Act} {w:World} {n:Nat} {l:SF} {all:List Oper}
theorem AA{id:Nat}{Q:Exit→Act→World→Prop}(h:wpList P all.toArray Q (all.drop 0) a w):(Code.region id all.toArray false).wp P Q a w:=wp_region_lit (by simpa using h)
theorem Dq{N R:dx}{ES:List (Nat×dx)}{i:Nat}(hi:Nat.ble all.length i=true)(h:N a w):wpList P all.toArray (Qs N ES R) (all.drop i) a w:=by
 have:all.length≤i:=by simpa using hi
 rw[List.drop_eq_nil_of_le this];exact h
def Dr(P:Program)(n:Nat)(all:List Oper)(i j:Nat)(os:List Value)(l:SF)(ks:List Nat):Option (SF×List Ob):=
 match o7 P n all (all.drop i) (j-i) os l with
 |some (l',dS)=>match aV l' ks with
  |some lk=>some (lk,dS)
  |none=>none
 |none=>none
theorem kV(i j:Nat)(os:List Value)(ks:List Nat)(lk:SF)(dS:List Ob)(H:ay D n l a)(cY:Nat.ble i j=true)(he:Dr P n all i j os l ks=some (lk,dS))(dm:p6 dS w)
  (hK:∀a' w',ay D n lk a'→Below w.heap.size w w'→wpList P all.toArray Q (all.drop j) a' w'):wpList P all.toArray Q (all.drop i) a w:=by
 unfold Dr at he;split at he
 ·rename_i l' VW h1;split at he
  ·rename_i VX h2;simp only[Option.some.injEq,Prod.mk.injEq]at he;obtain⟨rfl,rfl⟩:=he;refine Gp (j-i) (all.drop i) os l l' _ a w w (Below.rfl' w) h1 dm H ?_;intro a' w' H' hb;have OZ:i≤j:=by simpa using cY
   rw[List.drop_drop,Nat.add_sub_cancel' OZ];exact hK a' w' (H'.aV h2) hb
  ·cases he
 ·cases he
theorem W0{i:Nat}{o:Oper}(ho:all[i]?=some o)(hg:o.guard=none)
  (h:∀K:Act→World→Prop,(∀a w,wpList P all.toArray Q (all.drop (i+1)) a w→K a w)→o.wp P a w K Q):wpList P all.toArray Q (all.drop i) a w:=by
 have hl:i<all.length:=by
  rcases Nat.lt_or_ge i all.length with h|h
  ·exact h
  ·rw[List.getElem?_eq_none h]at ho;cases ho
 have he:all[i]=o:=by
  rw[List.getElem?_eq_getElem hl]at ho;exact Option.some.inj ho
 rw[List.drop_eq_getElem_cons hl,he];exact wpList_plain hg h
theorem eZ(a:Act):iB a []:=λ_ h=>by cases h
theorem ay.set{H:ay D n l a}{d:Nat}{v:Value}(hd:Nat.blt d n=true):ay D n (jC l d [] v) (a.put (some d) v):=H.put hd rfl (λ_=>rfl) (λh=>absurd (eZ a) h)
theorem yF(w:World)(cs:List Value)(T:TypeId):Kp [] w (w.alloc (.cells ⟨cs⟩ T))∧dh (w.alloc (.cells ⟨cs⟩ T)) w.heap.size cs:=
 ⟨Kp.wy ((Below.refl _ _).alloc (Nat.le_refl _) _) [],by show w.heap.size<(w.heap.push _).size;simp,T,by show(w.heap.push _)[w.heap.size]?=_;simp⟩
end
structure Sl{α:Type}(enc:α→List Value)(z:Nat)(w:World)(a:Option Addr)(l:List α):Prop where
 ok:0<l.length→cK a
 lt:0<l.length→ab a<w.heap.size
 get:∀i (h:i<l.length) j v,(enc l[i])[j]?=some v→w.cell? ⟨ab a,ao a+i*z+j,none⟩=some v
theorem Sl.kp{α:Type}{enc:α→List Value}{z:Nat}{w w':World}{a:Option Addr}{l:List α}{X:List Nat}(h:Sl enc z w a l)(k:Kp X w w')(hX:ab a∉X):Sl enc z w' a l:=
 ⟨h.ok,λhl=>Nat.lt_of_lt_of_le (h.lt hl) k.size,λi hi j v hv=>by
  rw[World.cell?_of_block (w:=w) (k.block (ab a) (h.lt (by omega)) hX)];exact h.get i hi j v hv⟩
theorem Sl.below{α:Type}{enc:α→List Value}{z:Nat}{w w':World}{a:Option Addr}{l:List α}(h:Sl enc z w a l)(k:Below w.heap.size w w'):Sl enc z w' a l:=h.kp (Kp.wy k []) (by simp)
theorem Sl.nil{α:Type}(enc:α→List Value)(z:Nat)(w:World)(a:Option Addr):Sl enc z w a ([]:List α):=⟨λh=>by simp at h,λh=>by simp at h,λi h=>by simp at h⟩
def gi{α:Type}[Inhabited α](l:List α)(i:Int):α:=l.getD i.toNat default
theorem Sl.aQ{α:Type}[Inhabited α]{enc:α→List Value}{z:Nat}{w:World}{a:Option Addr}{l:List α}(h:Sl enc z w a l){i:Int}(h0:0≤i)(h1:i<ln l)(j:Nat){v:Value}
  (hv:(enc (gi l i))[j]?=some v):V.aQ ⟨ab a,ao a+i.toNat*z+j,none⟩ v w:=by
 have hl:i.toNat<l.length:=by unfold ln at h1;omega
 have hg:gi l i=l[i.toNat]:=by simp[gi,List.getD_eq_getElem?_getD,List.getElem?_eq_getElem hl]
 rw[hg]at hv;exact⟨h.get _ hl j v hv,h.lt (by omega)⟩
theorem Sl.ib{α:Type}{enc:α→List Value}{z:Nat}{w:World}{a:Option Addr}{l:List α}(h:Sl enc z w a l){i:Int}(h0:0≤i∧i<ln l):cK a∧0≤i∧i<ln l:=
 ⟨h.ok (by unfold ln at h0;omega),h0⟩
theorem Sl.cG{α:Type}[Inhabited α]{enc:α→List Value}{z:Nat}{w:World}{a:Option Addr}{l:List α}(h:Sl enc z w a l){i:Int}(h0:0≤i)(h1:i<ln l):∀(vs:List Value)(j:Nat),
  (∀q (hq:q<vs.length),(enc (gi l i))[j+q]?=some vs[q])→V.cG (ab a) (ao a+i.toNat*z) vs j w
 |[],_,_=>trivial
 |v::r,j,hv=>⟨h.aQ h0 h1 j (by have:=hv 0 (by simp);rw[Nat.add_zero]at this;exact this),Sl.cG h h0 h1 r (j+1) (λq hq=>by
   have:=hv (q+1) (by simpa using hq);simpa[Nat.add_assoc,Nat.add_comm 1 q]using this)⟩
def AB(k:IntKind)(x:Int):List Value:=[.int k x]
theorem W1{α:Type}{enc:α→List Value}{z:Nat}(hz:∀x,(enc x).length=z):∀(l:List α)(i:Nat)(h:i<l.length)(j:Nat)(v:Value),(enc l[i])[j]?=some v→(l.map enc).flatten[i*z+j]?=some v
 |x::r,0,_,j,v,hv=>by
  have hj:j<(enc x).length:=by
   rcases Nat.lt_or_ge j (enc x).length with h|h
   ·exact h
   ·rw[List.getElem?_eq_none (by simpa using h)]at hv;cases hv
  simp only[List.getElem_cons_zero]at hv;simp only[List.map_cons,List.flatten_cons,Nat.zero_mul,Nat.zero_add];rw[List.getElem?_append_left hj];exact hv
 |x::r,i+1,h,j,v,hv=>by
  have:=W1 hz r i (by simpa using h) j v (by simpa using hv);simp only[List.map_cons,List.flatten_cons];rw[List.getElem?_append_right (by rw[hz];rw[Nat.add_mul,Nat.one_mul];omega),hz,show(i+1)*z+j-z=i*z+j from by rw[Nat.add_mul,Nat.one_mul];omega];exact this
theorem Sl.a43{α:Type}{enc:α→List Value}{z:Nat}(hz:∀x,(enc x).length=z){w:World}{b:Nat}{l:List α}{cs:List Value}{T:TypeId}{fr:Nat×Nat}(h:w.heap[b]?=some (.cells ⟨cs⟩ T fr))
  (hc:∀q,q<l.length*z→cs[q]?=(l.map enc).flatten[q]?):Sl enc z w (some ⟨b,0,none⟩) l:=by
 refine⟨λ_=>rfl,λ_=>?_,λi hi j v hv=>?_⟩
 ·show b<w.heap.size;rcases Nat.lt_or_ge b w.heap.size with hb|hb
  ·exact hb
  ·rw[Array.getElem?_eq_none hb]at h;cases h
 ·have hf:=W1 hz l i hi j v hv;have hj:j<z:=by
   rw[←hz l[i]];rcases Nat.lt_or_ge j (enc l[i]).length with h|h
   ·exact h
   ·rw[List.getElem?_eq_none h]at hv;cases hv
  have hq:i*z+j<l.length*z:=by
   have:(i+1)*z≤l.length*z:=Nat.mul_le_mul_right z hi;rw[Nat.add_mul,Nat.one_mul]at this;omega
  show w.cell? ⟨b,0+i*z+j,none⟩=some v;simp only[World.cell?,h,Option.isSome_none,Bool.false_eq_true,if_false,Nat.zero_add];simp only[List.getElem?_toArray];rw[hc _ hq];exact hf
theorem a44{P:Program}{w:World}{t E:TypeId}{z len:Nat}{zv:Value}{parts:Array (Nat×Value)}{cs:List Value}(hu:P.underlying t=some (.slice E))(hz:(P.info? E).map (·.size)=some z)
  (p8:(P.info? E).map (·.zero)=some (some zv))(hlen:Nat.ble (len*z) 16777216=true)(lx:Nat.blt 0 (len*z)=true)
  (hf:Instr.fill (λi=>some (i*z,z)) ((Array.range (len*z)).map (zv.cells[· %zv.cells.size]!)) parts.toList=some ⟨cs⟩):
  (Instr.buildSlice t len parts).run P w=.ok (.slice (some ⟨w.heap.size,0,none⟩) len len) (w.alloc (.cells ⟨cs⟩ E)):=by
 have hs:(sizeOf E).run P w=.ok z w:=ke hz;have yC:(zeroValue E).run P w=.ok zv w:=by
  cases hi:P.info? E with
  |none=>simp[hi]at p8
  |some inf=>
   simp[hi]at p8;simp[zeroValue,typeInfo,hi,p8]
 have h1:¬len*z>2^24:=by
  have:len*z≤16777216:=by simpa using hlen
  omega
 have h2:¬len*z=0:=by
  have:0<len*z:=by simpa[Nat.blt,Nat.lt_iff_add_one_le]using lx
  omega
 simp only[Instr.buildSlice,Sem.run_bind,run_underlying hu,Result.andThen_ok,hs,h1,if_false,h2,yC,Sem.run_pure,hf];simp[newRow]
section
variable {P:Program} {Q:Exit→Act→World→Prop} {a:Act} {w:World} {n:Nat} {l:SF} {all:List Oper}
end
structure aj9(P:Program)(f:FuncId)(args:Array Value)(w:World)(v:Value)(R:World→Prop):Prop where
 call:∀w,(callFunc f args).run P w=.ok (.enter f args) w
 run:Calls P f args w λe w'=>e=.returned v∧R w'
section
variable {P:Program} {Q:Exit→Act→World→Prop} {a:Act} {w:World} {n:Nat} {l:SF} {all:List Oper}
end
def bD(l:List Int):List UInt8:=l.map λn=>UInt8.ofNat n.toNat
def ax(s:List UInt8):List Int:=s.map λc=>(c.toNat:Int)
structure Rw(k:IntKind)(w:World)(b:Nat)(l:List Int):Prop where
 lt:b<w.heap.size
 get:∃T sp fr,w.heap[b]?=some (.cells ⟨l.map (Value.int k)++sp⟩ T fr)∧(fr.2=0∨l.length≤fr.1)
theorem Rw.kp{k:IntKind}{w w':World}{b:Nat}{l:List Int}{X:List Nat}(h:Rw k w b l)(kp:Kp X w w')(hX:b∉X):Rw k w' b l:=
 ⟨Nat.lt_of_lt_of_le h.lt kp.size,by obtain⟨T,sp,fr,hT,hf⟩:=h.get;exact⟨T,sp,fr,(kp.block b h.lt hX).trans hT,hf⟩⟩
theorem Rw.below{k:IntKind}{w w':World}{b:Nat}{l:List Int}(h:Rw k w b l)(kb:Below w.heap.size w w'):Rw k w' b l:=h.kp (Kp.wy kb []) (by simp)
theorem Rw.cell{k:IntKind}{w:World}{b i:Nat}{l:List Int}(h:Rw k w b l)(hi:i<l.length):w.cell? ⟨b,i,none⟩=some (.int k l[i]):=by
 obtain⟨T,sp,fr,hT,_⟩:=h.get;simp only[World.cell?,hT,Option.isSome_none,Bool.false_eq_true,if_false,List.getElem?_toArray];rw[List.getElem?_append_left (by simpa using hi)];simp[List.getElem?_eq_getElem hi]
theorem Rw.aQ{k:IntKind}{w:World}{b:Nat}{l:List Int}(h:Rw k w b l){i:Int}(h0:0≤i)(h1:i<ln l):V.aQ ⟨b,0+i.toNat*1,none⟩ (.int k (gi l i)) w:=by
 have hl:i.toNat<l.length:=by unfold ln at h1;omega
 have hg:gi l i=l[i.toNat]:=by simp[gi,List.getD_eq_getElem?_getD,List.getElem?_eq_getElem hl]
 rw[hg,Nat.mul_one,Nat.zero_add];exact⟨h.cell hl,h.lt⟩
theorem Rw.sl{k:IntKind}{w:World}{b off:Nat}{l:List Int}(h:Rw k w b l):Sl (AB k) 1 w (some ⟨b,off,none⟩) (l.drop off):=
 ⟨λ_=>rfl,λ_=>h.lt,λi hi j v hv=>by
  have hj:j=0:=by
   rcases Nat.eq_zero_or_pos j with h|h
   ·exact h
   ·rw[List.getElem?_eq_none (by simp[AB];omega)]at hv;cases hv
  subst hj;simp only[AB,List.getElem_drop,List.getElem?_cons_zero,Option.some.injEq]at hv;subst hv;have kC:off+i<l.length:=by simp at hi;omega
  simp only[ab,ao,Nat.mul_one,Nat.add_zero];exact h.cell kC⟩
theorem Rw.Gq{k:IntKind}{w:World}{b:Nat}{l:List Int}(h:Rw k w b l):Sl (AB k) 1 w (some ⟨b,0,none⟩) l:=by simpa using h.sl (off:=0)
def aW(l:List Int)(i v:Int):List Int:=l.set i.toNat v
theorem a45(l:List Int)(i v:Int):ln (aW l i v)=ln l:=by simp[ln,aW]
theorem a47{P:Program}{w:World}{k:IntKind}{b:Nat}{l:List Int}{t:TypeId}{i v:Int}(h:Rw k w b l)(hz:(P.info? t).map (·.size)=some 1)(h0:0≤i)(h1:i<ln l):
  ∃w',(Instr.storeAt t (.pointer (some ⟨b,0+i.toNat*1,none⟩)) (.int k v)).run P w=.ok () w'∧Kp [b] w w'∧Rw k w' b (aW l i v):=by
 have hl:i.toNat<l.length:=by unfold ln at h1;omega
 obtain⟨T,sp,fr,hT,hf⟩:=h.get;have hc:=h.cell hl;have W2:w.frozen? ⟨b,i.toNat,none⟩=false:=by
  simp only[World.frozen?,hT];rcases hf with hf|hf
  ·simp[hf]
  ·have:¬fr.1≤i.toNat:=by omega
   simp[this]
 have jE:(store ⟨b,i.toNat,none⟩ (.int k v)).run P w=.ok () (w.setCell ⟨b,i.toNat,none⟩ (.int k v)):=by
  rw[run_store P w _ _ .plain rfl,hc];simp[W2]
 have gk:(sizeOf t).run P w=.ok 1 w:=ke hz;refine⟨w.setCell ⟨b,i.toNat,none⟩ (.int k v),?_,qc w ⟨b,i.toNat,none⟩ (.int k v),?_,T,sp,fr,?_,?_⟩
 ·rw[Nat.mul_one,Nat.zero_add];have ha:Addr.add ⟨b,i.toNat,none⟩ 0=⟨b,i.toNat,none⟩:=rfl;simp[Instr.storeAt,Instr.sureAddr,storeVar,gk,Value.cells,storeCells,ha,jE]
 ·exact Nat.lt_of_lt_of_le h.lt (qc w ⟨b,i.toNat,none⟩ (.int k v)).size
 ·rw[Az hT];rw[List.set_append_left _ _ (by simpa using hl)];simp[aW,List.map_set]
 ·simpa[aW]using hf
section
variable {P:Program} {Q:Exit→Act→World→Prop} {a:Act} {w:World} {n:Nat} {l:SF} {all:List Oper}
end
theorem P0{P:Program}{w:World}{s t E:TypeId}{a:Option Addr}{c:Nat}{l:List Int}(hs:P.underlying s=some (.slice E))(ht:P.underlying t=some .string)(hE:P.underlying E=some (.int .u8))(h:Sl (AB .u8) 1 w a l):
  ∀w',Below w.heap.size w w'→(convert s t (.slice a l.length c)).run P w'=.ok (.string ⟨⟨bD l⟩⟩) w':=by
 intro w' hb;have h':=h.below hb;simp only[convert,Sem.run_bind,run_underlying hs,run_underlying ht,run_underlying hE,Result.andThen_ok];cases a with
 |none=>
  have:l=[]:=by
   cases l with
   |nil=>rfl
   |cons x r=>have:=h.ok (by simp);simp[cK]at this
  subst this;rfl
 |some a0=>
  cases l with
  |nil=>
   simp[Conv.bytesToString,loadCells,loadCellsFrom,bD];rfl
  |cons x r=>
   have bQ:some a0=some ⟨ab (some a0),ao (some a0),none⟩:=h.ok (by simp);have hl:=run_loadCells (P:=P) (w:=w') (b:=ab (some a0)) (off:=ao (some a0)) ((x::r).map (Value.int .u8)) 0 #[] (λi hi=>by
    have kC:i<(x::r).length:=by simpa using hi
    have:=h'.get i kC 0 (.int .u8 (x::r)[i]) rfl;simp only[Nat.mul_one,Nat.add_zero]at this;rw[Nat.zero_add,this,List.getElem_map])
   have he:a0=⟨ab (some a0),ao (some a0),none⟩:=by simpa using bQ
   have lX:=run_bytesToString (P:=P) w' a0 (x::r).length c (x::r) (by
    rw[he];unfold loadCells;have e2:((x::r).map (Value.int .u8)).length=(x::r).length:=by simp
    rw[e2]at hl;rw[←he]at hl⊢;rw[hl];simp)
   rw[lX,foldl_push_bytes];have e3:ByteArray.empty.data++((x::r).map λn=>UInt8.ofNat n.toNat).toArray=⟨bD (x::r)⟩:=by
    apply Array.ext';simp[bD,ByteArray.empty,ByteArray.emptyWithCapacity];rfl
   rw[e3]
theorem Gr{w:World}{b off:Nat}:∀(vs:List Value)(j:Nat),(∀i (hi:i<vs.length),V.aQ ⟨b,off+(j+i),none⟩ vs[i] w)→V.cG b off vs j w
 |[],_,_=>trivial
 |v::r,j,hv=>⟨by have:=hv 0 (by simp);exact this,Gr r (j+1) (λi hi=>by
   have:=hv (i+1) (by simpa using hi);simpa[Nat.add_assoc,Nat.add_comm 1 i]using this)⟩
theorem dh.jF{w:World}{b off:Nat}{cs vs:List Value}(h:dh w b cs)(hv:(cs.drop off).take vs.length=vs):V.cG b off vs 0 w:=by
 refine Gr vs 0 λi hi=>h.aQ ?_;have h1:((cs.drop off).take vs.length)[i]?=some vs[i]:=by rw[hv];exact List.getElem?_eq_getElem hi
 rw[List.getElem?_take_of_lt hi,List.getElem?_drop]at h1;rw[Nat.zero_add];exact h1
theorem Sl.gC{α:Type}[Inhabited α]{enc:α→List Value}{z:Nat}{w:World}{a:Option Addr}{l:List α}(h:Sl enc z w a l){i:Int}(h0:0≤i∧i<ln l){vs:List Value}(hv:enc (gi l i)=vs):
  V.cG (ab a) (ao a+i.toNat*z) vs 0 w:=by
 subst hv;refine Gr _ 0 λq hq=>?_;have:=h.aQ h0.1 h0.2 (0+q) (v:=(enc (gi l i))[q]) (by rw[Nat.zero_add];exact List.getElem?_eq_getElem hq);exact this
section
variable {P:Program} {Q:Exit→Act→World→Prop} {a:Act} {w:World} {n:Nat} {l:SF} {all:List Oper}
end
theorem dh.row{k:IntKind}{w:World}{b:Nat}(l:List Int)(h:dh w b (l.map (Value.int k))):Rw k w b l:=
 ⟨h.lt,by obtain⟨T,hT⟩:=h.get;exact⟨T,[],(0,0),by simpa using hT,.inl rfl⟩⟩
theorem W3{P:Program}{w:World}{s t E:TypeId}{b c m:Nat}{q:List Int}(hs:P.underlying s=some (.slice E))(ht:P.underlying t=some .string)(hE:P.underlying E=some (.int .u8))(h:Rw .u8 w b q)(e:ln q=(m:Int)):
  ∀w',Below w.heap.size w w'→(convert s t (.slice (some ⟨b,0,none⟩) m c)).run P w'=.ok (.string ⟨⟨bD q⟩⟩) w':=by
 obtain rfl:q.length=m:=by unfold ln at e;omega
 exact P0 hs ht hE h.Gq
theorem W4{P:Program}{w:World}{s t E:TypeId}{b c m:Nat}{i:Int}{q:List Int}(hs:P.underlying s=some (.slice E))(ht:P.underlying t=some .string)(hE:P.underlying E=some (.int .u8))(h:Rw .u8 w b q)(e:ln q=(m:Int)):
  ∀w',Below w.heap.size w w'→(convert s t (.slice (some ⟨b,0+i.toNat*1,none⟩) (m-i.toNat) c)).run P w'=.ok (.string ⟨⟨bD (q.drop i.toNat)⟩⟩) w':=by
 have e2:m-i.toNat=(q.drop i.toNat).length:=by
  have:q.length=m:=by unfold ln at e;omega
  simp[this]
 rw[e2,Nat.mul_one,Nat.zero_add];exact P0 hs ht hE h.sl
end
section
variable {D:List Deferred}
def cR:Option Addr→List Nat
 |none=>[]
 |some a=>[a.block]
structure Ow{α:Type}(e:TypeId)(enc:α→List Value)(z:Nat)(w:World)(a:Option Addr)(c:Nat)(l:List α):Prop where
 row:w.ownsRow 0 e z (.slice a l.length c) l.length (l.map enc).flatten
 lt:∀b∈cR a,b<w.heap.size
 ln:l.length≤4611686018427387904
theorem Ow.kp{α:Type}{e:TypeId}{enc:α→List Value}{z c:Nat}{w w':World}{a:Option Addr}{l:List α}{X:List Nat}(h:Ow e enc z w a c l)(k:Kp X w w')(hX:∀b∈cR a,b∉X):Ow e enc z w' a c l:=by
 refine⟨⟨h.row.1,?_⟩,λb hb=>Nat.lt_of_lt_of_le (h.lt b hb) k.size,h.ln⟩;rcases h.row.2 with h0|⟨g,cap,fP,hv,h1,h2,h3⟩
 ·exact .inl h0
 ·refine .inr ⟨g,cap,fP,hv,h1,?_,h3⟩;simp only[Value.slice.injEq]at hv;obtain⟨rfl,_⟩:=hv;exact(k.block g (h.lt g (by simp[cR])) (hX g (by simp[cR]))).trans h2
theorem Ow.below{α:Type}{e:TypeId}{enc:α→List Value}{z c:Nat}{w w':World}{a:Option Addr}{l:List α}(h:Ow e enc z w a c l)(k:Below w.heap.size w w'):Ow e enc z w' a c l:=h.kp (Kp.wy k []) (by simp)
theorem Ow.nil{α:Type}(e:TypeId)(enc:α→List Value)(z:Nat)(w:World):Ow e enc z w none 0 ([]:List α):=
 ⟨⟨by simp,.inl ⟨rfl,rfl⟩⟩,by simp[cR],by simp⟩
theorem Ow.sl{α:Type}{e:TypeId}{enc:α→List Value}{z c:Nat}(hz:∀x,(enc x).length=z){w:World}{a:Option Addr}{l:List α}(h:Ow e enc z w a c l):Sl enc z w a l:=by
 rcases h.row.2 with⟨h0,h1⟩|⟨g,cap,fP,hv,h1,h2,h3,h4,h5,h6⟩
 ·obtain rfl:=List.eq_nil_of_length_eq_zero h1;exact Sl.nil _ _ _ _
 ·simp only[Value.slice.injEq]at hv;obtain⟨rfl,_,rfl⟩:=hv;refine Sl.a43 hz (cs:=fP.toList) (T:=e) (fr:=(0,0)) (by simpa using h2) λq hq=>?_;rw[←h6,List.getElem?_take,if_pos hq]
theorem yG{α:Type}{enc:α→List Value}{z:Nat}(hz:∀x,(enc x).length=z)(l:List α):(l.map enc).flatten.length=l.length*z:=by
 induction l with
 |nil=>simp
 |cons x r ih=>simp only[List.map_cons,List.flatten_cons,List.length_append,hz,ih,List.length_cons,Nat.add_mul,Nat.one_mul];omega
theorem W5{α:Type}{enc:α→List Value}{z:Nat}(hz:∀x,(enc x).length=z):∀(l:List α)(q:Nat)(v:Value),(l.map enc).flatten[q]?=some v→∃i,∃h:i<l.length,∃j,q=i*z+j∧(enc l[i])[j]?=some v
 |[],q,v,h=>by simp at h
 |x::r,q,v,h=>by
  simp only[List.map_cons,List.flatten_cons]at h;by_cases hq:q<z
  ·rw[List.getElem?_append_left (by rw[hz];exact hq)]at h;exact⟨0,by simp,q,by omega,by simpa using h⟩
  ·rw[List.getElem?_append_right (by rw[hz];omega),hz]at h;obtain⟨i,hi,j,e1,e2⟩:=W5 hz r _ v h;exact⟨i+1,by simpa using hi,j,by rw[Nat.add_mul,Nat.one_mul];omega,by simpa using e2⟩
theorem W6:∀{l:List Value},o8 l=true→∀u∈l,u.oneCell'=true
 |[],_,u,h=>by simp at h
 |v::r,ho,u,h=>by
  simp only[o8,Bool.and_eq_true]at ho;rcases List.mem_cons.1 h with rfl|h
  ·exact ho.1
  ·exact W6 ho.2 u h
theorem Ow.W7{α:Type}{e:TypeId}{enc:α→List Value}{z:Nat}(hz:∀x,(enc x).length=z){w:World}{b:Nat}{l:List α}(hl:l.length≤4611686018427387904)(h:w.heap[b]?=some (.cells ⟨(l.map enc).flatten⟩ e (0,0))):Ow e enc z w (some ⟨b,0,none⟩) l.length l:=by
 have hb:b<w.heap.size:=by
  rcases Nat.lt_or_ge b w.heap.size with hb|hb
  ·exact hb
  ·rw[Array.getElem?_eq_none hb]at h;cases h
 refine⟨⟨yG hz l,.inr ⟨b,l.length,_,rfl,Nat.zero_le _,h,Nat.le_refl _,by unfold maxLen;omega,by simp[yG hz],?_⟩⟩,by simp[cR,hb],hl⟩;rw[←yG hz l];exact List.take_length
theorem a48{P:Program}{α:Type}{w:World}{t ty e:TypeId}{enc:α→List Value}{z bytes:Nat}{zv:Value}(Ds:∀x,(enc x).length=z)(P1:∀x,o8 (enc x)=true)
  (hu:P.underlying t=some (.slice e))(hi:(P.info? e).map (λi=>(i.size,i.bytes,i.zero))=some (z,bytes,some zv))(o9:zv.cells.size=z)(hz:Nat.blt 0 z=true)
  {a1 a2:Option Addr}{n2 c1 c2:Nat}{l1 l2:List α}(how:Ow e enc z w a1 c1 l1)(iX:Sl enc z w a2 l2)(kD:l2.length=n2)(hb:Nat.ble bytes 128=true)(hl:(l1.length:Int)+l2.length≤1099511627776):
  ∃ar cr w',(Builtin.append_ #[t,t] ty #[.slice a1 l1.length c1,.slice a2 n2 c2]).run P w=.ok (.slice ar (l1++l2).length cr) w'∧Kp (cR a1) w w'∧(ar=a1∨cR ar=[w.heap.size])∧Ow e enc z w' ar cr (l1++l2):=by
 subst kD;have hb:bytes≤128:=by simpa using hb
 have Gs:0<z:=by simpa[Nat.blt,Nat.lt_iff_add_one_le]using hz
 cases a2 with
 |none=>
  have h0:l2=[]:=by
   cases l2 with
   |nil=>rfl
   |cons x r=>exact absurd (iX.ok (by simp)) (by simp[cK])
  subst h0;refine⟨a1,c1,w,?_,Kp.refl _ _,.inl rfl,by simpa using how⟩;cases fO:P.info? e with
  |none=>simp[fO]at hi
  |some inf=>
   simp[fO]at hi;obtain⟨h2,h3,h4⟩:=hi;have hle:l1.length≤c1:=by
    rcases how.row.2 with⟨h0,h1⟩|⟨g,cap,fP,hv,_,_,h3,_⟩
    ·omega
    ·simp only[Value.slice.injEq]at hv;obtain⟨_,_,rfl⟩:=hv;exact h3
   cases a1<;>simp[Builtin.append_,run_underlying hu,sizeOf,typeInfo,fO,Builtin.lenOf,Builtin.firstCells,hle,storeCells]
 |some ad=>
  cases fO:P.info? e with
  |none=>simp[fO]at hi
  |some inf=>
   simp[fO]at hi;obtain⟨h2,h3,h4⟩:=hi;have a4a:∀j u,(l2.map enc).flatten[j]?=some u→w.cell? (ad.add j)=some u:=by
    intro j u hj;obtain⟨i,hi,q,rfl,hq⟩:=W5 Ds l2 j u hj;have:=iX.get i hi q u hq;have ho:=iX.ok (by omega);unfold cK at ho;simp only[Option.some.injEq]at ho;rw[ho,Addr.add_zero',←Nat.add_assoc];exact this
   have Gt:(l1.length+l2.length)*bytes≤140737488355328:=by
    have:(l1.length+l2.length)*bytes≤1099511627776*128:=Nat.mul_le_mul (by omega) hb;omega
   obtain⟨v',w',hr,uk,hg,_,AD⟩:=run_append_own_at (P:=P) w 0 t ty e inf zv z bytes hu fO h4 h2 h3 o9 Gs (.slice a1 l1.length c1) l1.length _ how.row ad l2.length c2
    (l2.map enc).flatten (yG Ds l2) a4a (by
     intro u hu;obtain⟨ys,hys,huy⟩:=List.mem_flatten.1 hu;obtain⟨x,_,rfl⟩:=List.mem_map.1 hys;exact W6 (P1 x) u huy) (by unfold maxLen;omega) Gt (Nat.zero_le _)
   have um:Kp (cR a1) w w':=⟨hg.os,hg.tape,hg.output,hg.size,λk hk hx=>hg.block k hk (by
    cases a1 with
    |none=>simp[Value.ownBlock]
    |some x=>simp[cR]at hx;simpa[Value.ownBlock]using hx)⟩
   have hlen:(l1++l2).length=l1.length+l2.length:=by simp
   have sM:((l1++l2).map enc).flatten=(l1.map enc).flatten++(l2.map enc).flatten:=by simp
   have fin:∀ar cr,v'=.slice ar (l1.length+l2.length) cr→(∀b∈cR ar,b<w'.heap.size)→(ar=a1∨cR ar=[w.heap.size])→
     ∃ar cr w',(Builtin.append_ #[t,t] ty #[.slice a1 l1.length c1,.slice (some ad) l2.length c2]).run P w=.ok (.slice ar (l1++l2).length cr) w'∧Kp (cR a1) w w'∧(ar=a1∨cR ar=[w.heap.size])∧Ow e enc z w' ar cr (l1++l2):=by
    intro ar cr hv aM iY;subst hv;refine⟨ar,cr,w',by rw[hlen];exact hr,um,iY,⟨?_,aM,by omega⟩⟩;rw[hlen,sM];exact uk
   rcases uk.2 with⟨h0,h1⟩|⟨g,cap,fP,hv,_,yH,h3',_⟩
   ·refine fin none 0 (by rw[h0,h1]) (by simp[cR]) ?_;left;rcases AD with h|h
    ·rw[h0]at h;cases a1 with
     |none=>rfl
     |some x=>simp[Value.ownBlock]at h
    ·rw[h0]at h;simp[Value.ownBlock]at h
   ·have yI:g<w'.heap.size:=by
     rcases Nat.lt_or_ge g w'.heap.size with hb|hb
     ·exact hb
     ·rw[Array.getElem?_eq_none hb]at yH;cases yH
    refine fin (some ⟨g,0,none⟩) cap hv (by simp[cR,yI]) ?_;rw[hv]at AD;rcases AD with h|h
    ·left;cases a1 with
     |none=>simp[Value.ownBlock]at h
     |some x=>
      simp[Value.ownBlock]at h;rcases how.row.2 with⟨h0,_⟩|⟨g',_,_,Gu,_⟩
      ·simp at h0
      ·simp only[Value.slice.injEq,Option.some.injEq]at Gu;obtain⟨rfl,_⟩:=Gu;simp at h;subst h;rfl
    ·right;simp[Value.ownBlock]at h;simp[cR,h]
section
variable {P:Program} {Q:Exit→Act→World→Prop} {a:Act} {w:World} {n:Nat} {l:SF} {all:List Oper}
end
def my(L:List (List Nat))(G:List Nat):List (List Nat):=L++G.map λb=>[b]
def Dj(A B:List Nat):Prop:=∀y∈A,y∉B
theorem Dj.symm{A B:List Nat}(h:Dj A B):Dj B A:=λy hb ha=>h y ha hb
structure ND(B:Nat)(L:List (List Nat))(G:List Nat)(w:World):Prop where
 nd:(my L G).Pairwise Dj
 lt:∀A∈my L G,∀y∈A,y<w.heap.size
 lo:∀A∈L,∀y∈A,B≤y
 size:B≤w.heap.size
theorem Dt{L:List (List Nat)}{i y:Nat}(h:y∈L.getD i []):L.getD i []∈L:=by
 rw[List.getD_eq_getElem?_getD]at h⊢;cases hg:L[i]? with
 |none=>simp[hg]at h
 |some l=>simp only[Option.getD_some];exact List.mem_of_getElem? hg
theorem P2:∀{L:List (List Nat)},L.Pairwise Dj→∀(i j:Nat),i≠j→Dj (L.getD i []) (L.getD j [])
 |[],_,i,j,_,y,h=>by simp at h
 |l::r,hn,i,j,cY,y,h=>by
  rw[List.pairwise_cons]at hn
  match i,j with
  |0,0=>exact absurd rfl cY
  |0,j+1=>
   simp only[List.getD_cons_zero,List.getD_cons_succ]at h⊢;exact λhy=>hn.1 _ (Dt hy) y h hy
  |i+1,0=>
   simp only[List.getD_cons_zero,List.getD_cons_succ]at h⊢;exact λhy=>hn.1 _ (Dt h) y hy h
  |i+1,j+1=>
   simp only[List.getD_cons_succ]at h⊢;exact P2 hn.2 i j (by omega) y h
theorem ND.dj{B:Nat}{L:List (List Nat)}{G:List Nat}{w:World}(h:ND B L G w)(i j:Nat)(cY:i≠j):Dj ((my L G).getD i []) ((my L G).getD j []):=P2 h.nd i j cY
theorem ND.mono{B:Nat}{L:List (List Nat)}{G:List Nat}{w w':World}(h:ND B L G w)(hs:w.heap.size≤w'.heap.size):ND B L G w':=
 ⟨h.nd,λA hA y hy=>Nat.lt_of_lt_of_le (h.lt A hA y hy) hs,h.lo,Nat.le_trans h.size hs⟩
theorem ND.a4b{B:Nat}{L:List (List Nat)}{G:List Nat}{w w':World}(h:ND B L G w)(hs:w.heap.size≤w'.heap.size)(F:List Nat)(h1:∀y∈F,w.heap.size≤y)(h2:∀y∈F,y<w'.heap.size):ND B (F::L) G w':=by
 refine⟨?_,?_,?_,Nat.le_trans h.size hs⟩
 ·show(F::my L G).Pairwise Dj;rw[List.pairwise_cons];refine⟨λA hA y hy gm=>?_,h.nd⟩;have:=h1 y hy;have:=h.lt A hA y gm;omega
 ·show∀A∈F::my L G,_;intro A hA y hy;rcases List.mem_cons.1 hA with rfl|hA
  ·exact h2 y hy
  ·exact Nat.lt_of_lt_of_le (h.lt A hA y hy) hs
 ·intro A hA y hy;rcases List.mem_cons.1 hA with rfl|hA
  ·exact Nat.le_trans h.size (h1 y hy)
  ·exact h.lo A hA y hy
def Du(L:List (List Nat))(gs:List (List Nat)):List (List Nat):=gs.map λg=>(g.map λi=>L.getD i []).flatten
theorem KH{L:List (List Nat)}{g:List Nat}{y:Nat}(h:y∈(g.map λi=>L.getD i []).flatten):∃i∈g,y∈L.getD i []:=by
 obtain⟨A,hA,hy⟩:=List.mem_flatten.1 h;obtain⟨i,hi,rfl⟩:=List.mem_map.1 hA;exact⟨i,hi,hy⟩
theorem ND.Du{B:Nat}{L:List (List Nat)}{G:List Nat}{w:World}(h:ND B L G w)(gs:List (List Nat))(hg:gs.flatten.Nodup):ND B (V.Du L gs) G w:=by
 have nx:∀g∈gs,∀y∈(g.map λi=>L.getD i []).flatten,∃A∈L,y∈A:=λg _ y hy=>by
  obtain⟨i,_,hi⟩:=KH hy;exact⟨_,Dt hi,hi⟩
 refine⟨?_,?_,?_,h.size⟩
 ·unfold my;rw[List.pairwise_append];have hold:=h.nd;unfold my at hold;rw[List.pairwise_append]at hold;refine⟨?_,hold.2.1,?_⟩
  ·unfold V.Du;rw[List.pairwise_map];clear nx
   induction gs with
   |nil=>exact List.Pairwise.nil
   |cons g r ih=>
    rw[List.flatten_cons,List.nodup_append]at hg;rw[List.pairwise_cons];refine⟨λg' p9 y hy wA=>?_,ih hg.2.1⟩;obtain⟨i,hi,wB⟩:=KH hy;obtain⟨j,hj,hyj⟩:=KH wA;have cQ:i≠j:=λe=>hg.2.2 i hi j (List.mem_flatten.2 ⟨g',p9,hj⟩) e;exact P2 hold.1 i j cQ y wB hyj
  ·intro A hA C hC y hy Gv;obtain⟨g,p9,rfl⟩:=List.mem_map.1 hA;obtain⟨i,_,wB⟩:=KH hy;exact hold.2.2 _ (Dt wB) C hC y wB Gv
 ·intro A hA y hy;rcases List.mem_append.1 hA with hA|hA
  ·obtain⟨g,p9,rfl⟩:=List.mem_map.1 hA;obtain⟨A,hA,qd⟩:=nx g p9 y hy;exact h.lt A (List.mem_append_left _ hA) y qd
  ·exact h.lt A (List.mem_append_right _ hA) y hy
 ·intro A hA y hy;obtain⟨g,p9,rfl⟩:=List.mem_map.1 hA;obtain⟨A,hA,qd⟩:=nx g p9 y hy;exact h.lo A hA y qd
theorem ND.move{B:Nat}{G:List Nat}{w w':World}:∀{L:List (List Nat)}(i:Nat)(F:List Nat),ND B L G w→w.heap.size≤w'.heap.size→(∀y∈F,y∈L.getD i []∨w.heap.size≤y)→(∀y∈F,y<w'.heap.size)→ND B (L.set i F) G w'
 |[],i,F,h,hs,h1,h2=>by simpa using h.mono hs
 |l::r,0,F,h,hs,h1,h2=>by
  have hn:(l::my r G).Pairwise Dj:=h.nd;rw[List.pairwise_cons]at hn;simp only[List.getD_cons_zero]at h1;refine⟨?_,?_,?_,Nat.le_trans h.size hs⟩
  ·show(F::my r G).Pairwise Dj;rw[List.pairwise_cons];refine⟨λA hA y hy qd=>?_,hn.2⟩;rcases h1 y hy with h3|h3
   ·exact hn.1 A hA y h3 qd
   ·have:=h.lt A (List.mem_cons_of_mem _ hA) y qd;omega
  ·show∀A∈F::my r G,_;intro A hA y hy;rcases List.mem_cons.1 hA with rfl|hA
   ·exact h2 y hy
   ·exact Nat.lt_of_lt_of_le (h.lt A (List.mem_cons_of_mem _ hA) y hy) hs
  ·intro A hA y hy;rcases List.mem_cons.1 hA with rfl|hA
   ·rcases h1 y hy with h3|h3
    ·exact h.lo l List.mem_cons_self y h3
    ·exact Nat.le_trans h.size h3
   ·exact h.lo A (List.mem_cons_of_mem _ hA) y hy
 |l::r,i+1,F,h,hs,h1,h2=>by
  have hn:(l::my r G).Pairwise Dj:=h.nd;rw[List.pairwise_cons]at hn;have hr:ND B r G w:=⟨hn.2,λA hA=>h.lt A (List.mem_cons_of_mem _ hA),λA hA=>h.lo A (List.mem_cons_of_mem _ hA),h.size⟩;simp only[List.getD_cons_succ]at h1;have hm:=ND.move i F hr hs h1 h2;have hold:∀A∈my (r.set i F) G,∀y∈A,(∃C∈my r G,y∈C)∨w.heap.size≤y:=by
   intro A hA y hy;rcases List.mem_append.1 hA with hA|hA
   ·rcases List.mem_or_eq_of_mem_set hA with hA|rfl
    ·exact .inl ⟨A,List.mem_append_left _ hA,hy⟩
    ·rcases h1 y hy with h3|h3
     ·exact .inl ⟨_,List.mem_append_left _ (Dt h3),h3⟩
     ·exact .inr h3
   ·exact .inl ⟨A,List.mem_append_right _ hA,hy⟩
  refine⟨?_,?_,?_,Nat.le_trans h.size hs⟩
  ·show(l::my (r.set i F) G).Pairwise Dj;rw[List.pairwise_cons];refine⟨λA hA y hy qd=>?_,hm.nd⟩;rcases hold A hA y qd with⟨C,hC,Gv⟩|h3
   ·exact hn.1 C hC y hy Gv
   ·have:=h.lt l List.mem_cons_self y hy;omega
  ·show∀A∈l::my (r.set i F) G,_;intro A hA y hy;rcases List.mem_cons.1 hA with rfl|hA
   ·exact Nat.lt_of_lt_of_le (h.lt A List.mem_cons_self y hy) hs
   ·exact hm.lt A hA y hy
  ·intro A hA y hy;rcases List.mem_cons.1 hA with rfl|hA
   ·exact h.lo A List.mem_cons_self y hy
   ·exact hm.lo A hA y hy
theorem ND.start{G:List Nat}{w:World}(hd:G.Nodup)(hl:∀b∈G,b<w.heap.size):ND w.heap.size [] G w:=by
 refine⟨?_,?_,by simp,Nat.le_refl _⟩
 ·show(G.map λb=>[b]).Pairwise Dj;rw[List.pairwise_map];exact List.Pairwise.imp (λ{a b} h y hy gm=>by simp at hy gm;exact h (hy.symm.trans gm)) hd
 ·intro A hA y hy;obtain⟨b,hb,rfl⟩:=List.mem_map.1 hA;simp at hy;subst hy;exact hl _ hb
structure kW(P:Program)(f:FuncId)(args:Array Value)(w:World)(R:Value→World→Prop):Prop where
 call:∀w,(callFunc f args).run P w=.ok (.enter f args) w
 run:Calls P f args w λe w'=>∃v,e=.returned v∧R v w'
section
variable {P:Program} {Q:Exit→Act→World→Prop} {a:Act} {w:World} {n:Nat} {l:SF} {all:List Oper}
end
theorem nc{y b:Nat}{r:List Nat}(h:y∉[b])(k:y∉r):y∉b::r:=by
 simp only[List.mem_cons,List.not_mem_nil,or_false,not_or]at h⊢;exact⟨h,k⟩
theorem ND.join{B B':Nat}{L Lc:List (List Nat)}{G Gc:List Nat}{w w':World}(h:ND B L G w)(hs:w.heap.size≤w'.heap.size)(hB:w.heap.size≤B')(hc:ND B' Lc Gc w'):ND B (Lc++L) G w':=by
 have P3:=hc.nd;unfold my at P3;rw[List.pairwise_append]at P3;refine⟨?_,?_,?_,Nat.le_trans h.size hs⟩
 ·show((Lc++L)++_).Pairwise Dj;rw[List.append_assoc,List.pairwise_append];refine⟨P3.1,h.nd,λA hA C hC y hy Gv=>?_⟩;have:=hc.lo A hA y hy;have:=h.lt C hC y Gv;omega
 ·show∀A∈(Lc++L)++_,_;rw[List.append_assoc];intro A hA y hy;rcases List.mem_append.1 hA with hA|hA
  ·exact hc.lt A (List.mem_append_left _ hA) y hy
  ·exact Nat.lt_of_lt_of_le (h.lt A hA y hy) hs
 ·intro A hA y hy;rcases List.mem_append.1 hA with hA|hA
  ·have:=hc.lo A hA y hy;have:=h.size;omega
  ·exact h.lo A hA y hy
theorem ND.nil{B:Nat}{L:List (List Nat)}{G:List Nat}{w:World}(h:ND B L G w):ND B ([]::L) G w:=h.a4b (Nat.le_refl _) [] (by simp) (by simp)
theorem ND.drop{B:Nat}{L L':List (List Nat)}{G:List Nat}{w:World}(h:ND B L G w)(hs:L'.Sublist L):ND B L' G w:=
 ⟨h.nd.sublist (hs.append_right _),λA hA=>h.lt A ((hs.append_right _).subset hA),λA hA=>h.lo A (hs.subset hA),h.size⟩
def pick:List (List Nat)→List Bool→List (List Nat)
 |l::r,true::b=>l::pick r b
 |_::r,false::b=>pick r b
 |_,_=>[]
theorem P4:∀(L:List (List Nat))(b:List Bool),(pick L b).Sublist L
 |l::r,true::b=>(P4 r b).cons_cons l
 |l::r,false::b=>(P4 r b).cons l
 |[],_=>by simp[pick]
 |_::_,[]=>by simp[pick]
theorem ND.pick{B:Nat}{L:List (List Nat)}{G:List Nat}{w:World}(h:ND B L G w)(b:List Bool):ND B (V.pick L b) G w:=h.drop (P4 L b)
theorem Ow.mem{α:Type}{e:TypeId}{enc:α→List Value}{z c:Nat}{w:World}{a:Option Addr}{l:List α}(h:Ow e enc z w a c l)(hl:0<l.length):ab a∈cR a:=by
 cases a with
 |some x=>simp[cR,ab]
 |none=>
  rcases h.row.2 with⟨_,h1⟩|⟨g,cap,fP,hv,_⟩
  ·omega
  ·simp at hv
theorem ND.ext{B x:Nat}{L:List (List Nat)}{G:List Nat}{w:World}(h:ND B L G w)(i:Nat)(hx:x<B):x∉L.getD i []:=λhy=>by
 have:=h.lo _ (Dt hy) x hy;omega
theorem dh.W8{w:World}{b:Nat}{cs:List Value}(h:dh w b cs):∀y∈[b],y<w.heap.size:=by simpa using h.lt
theorem ND.bx{B:Nat}{L:List (List Nat)}{G:List Nat}{w:World}(h:ND B L G w)(ks:List Nat)(hk:ks.Nodup):ND B (ks.map λi=>L.getD i []) G w:=by
 have e:V.Du L (ks.map λi=>[i])=ks.map λi=>L.getD i []:=by
  unfold V.Du;rw[List.map_map];exact List.map_congr_left λi _=>by simp
 have e2:(ks.map λi=>[i]).flatten=ks:=by
  clear hk e
  induction ks with
  |nil=>rfl
  |cons k r ih=>simp only[List.map_cons,List.flatten_cons,List.singleton_append,ih]
 have:=h.Du (ks.map λi=>[i]) (by rw[e2];exact hk);rw[e]at this;exact this
end
section
variable {D:List Deferred}
def bc(P:Program)(o:Oper)(a:Act)(w:World)(K:Value→World→Prop):Prop:=
 ∀(Q:Exit→Act→World→Prop)(N:Act→World→Prop),(∀v w',K v w'→N (a.put o.dst v) w')→o.wp P a w N Q
theorem bc.mono{P:Program}{o:Oper}{a:Act}{w:World}{K K':Value→World→Prop}(h:bc P o a w K)(hk:∀v w',K v w'→K' v w'):bc P o a w K':=
 λQ N hN=>h Q N λv w' q=>hN v w' (hk v w' q)
theorem bc.a4c{P:Program}{o:Oper}{a:Act}{w:World}{v:Value}(h:Yields P o a w v):bc P o a w λu w'=>u=v∧Below w.heap.size w w':=λQ N hN=>by
 have h1:=h w (Below.refl _ _);unfold Oper.quietAt at h1;unfold Oper.wp;generalize(execOp a.eval o).run P w=r at*;cases r with
 |ok n w'=>
  cases n<;>simp only[Oper.quietUpon]at h1<;>simp only[Oper.upon]
  case value u=>
   obtain⟨e1,e2⟩:=h1;rw[e1,e2];exact hN _ _ ⟨rfl,Below.refl _ _⟩
  case skip=>
   obtain⟨e1,e2⟩:=h1;rw[e1];exact hN _ _ ⟨e2.symm,Below.refl _ _⟩
  case enter f args=>
   obtain⟨e1,hc⟩:=h1;rw[e1];exact hc.mono λe kB ⟨he,a4d⟩=>by subst he;exact hN _ _ ⟨rfl,a4d⟩
 |halt x w'=>simp only[Oper.quietUpon]at h1
theorem ay.add{n:Nat}{l:SF}{a:Act}(H:ay D n l a){d:Nat}{v:Value}(h:a.tmps[d]?=some v):ay D n ((d,[],v)::l) a:=
 ⟨H.1,H.2.1,λe he=>by
  rcases List.mem_cons.1 he with rfl|he
  ·exact⟨λ_=>h,λx=>absurd (eZ a) x⟩
  ·exact H.2.2 e he⟩
def dst(all:List Oper)(i:Nat):Nat:=((all[i]?).bind (·.dst)).getD 0
def reach(all:List Oper):Nat→Nat→Nat→Bool
 |0,_,_=>false
 |m+1,i,j=>match all[i]? with
  |some o=>o.after.toList.any λe=>Region.binds .any e&&(Nat.beq e.on j||reach all m e.on j)
  |none=>false
theorem P5{all:List Oper}{listed:Array Bool}(uo:∀(i:Nat)(o:Oper),listed[i]?=some true→all[i]?=some o→∀e∈o.after,Region.binds .any e=true→listed[e.on]?=some true):
  ∀(m i j:Nat)(o:Oper),all[i]?=some o→(∀e∈o.after,Region.binds .any e=true→listed[e.on]?=some true)→reach all m i j=true→listed[j]?=some true
 |0,_,_,_,_,_,h=>by simp[reach]at h
 |m+1,i,j,o,ho,ha,h=>by
  unfold reach at h;rw[ho]at h;obtain⟨e,he,h2⟩:=List.any_eq_true.1 h;rw[Bool.and_eq_true,Bool.or_eq_true]at h2;have KI:e∈o.after:=by simpa using he
  have hl:=ha e KI h2.1;rcases h2.2 with h3|h3
  ·rw[←Nat.eq_of_beq_eq_true h3];exact hl
  ·cases hq:all[e.on]? with
   |none=>
    cases m with
    |zero=>simp[reach]at h3
    |succ m=>unfold reach at h3;rw[hq]at h3;simp at h3
   |some o2=>exact P5 uo m e.on j o2 hq (uo e.on o2 hl hq) h3
def Dv(all:List Oper):Bool:=
 (List.range all.length).all λi=>match all[i]? with
  |some o=>o.after.toList.all λe=>!Region.binds .any e||Nat.blt e.on i
  |none=>false
structure aja(n:Nat)(base:SF)(all:List Oper)(ajb:Nat→List Nat)(XA:List Nat)(Psi:Nat→(Nat→Value)→(Nat→List Nat)→World→Prop)(w0:World)(listed:Array Bool)(a:Act)(w:World)
  (vs:Nat→Value)(fs:Nat→List Nat):Prop where
 size:listed.size=all.length
 fr:ay [] n base a
 below:Kp XA w0 w
 did:∀i,listed[i]?=some true→a.tmps[dst all i]?=some (vs i)∧Psi i vs fs w∧(∀y∈fs i,w0.heap.size≤y∧y<w.heap.size)
 cl:∀(i:Nat)(o:Oper),listed[i]?=some true→all[i]?=some o→∀e∈o.after,Region.binds .any e=true→listed[e.on]?=some true
 dj:∀i j,listed[i]?=some true→listed[j]?=some true→i≠j→Dj (fs i) (fs j)
theorem bc.pa{P:Program}{o:Oper}{a:Act}{w w':World}{v:Value}{K:Value→World→Prop}(hr:(execOp a.eval o).run P w=.ok (.value v) w')(hk:K v w'):bc P o a w K:=λQ N hN=>by
 unfold Oper.wp;rw[hr];exact hN _ _ hk
section
variable {P:Program} {a:Act} {w:World} {n:Nat} {l:SF}
theorem Gw{o:Oper}(os:List Value)(v:Value)(ob:Option Ob)(OR:List Value)(H:ay D n l a)(_:o.guard=none)(h:At P l [] o.op os=some ⟨v,OR,ob⟩)(dm:∀q,ob=some q→q w):bc P o a w λu w'=>u=v∧Kp [] w w':=by
 obtain⟨dst,op,ty,pos,after,guard⟩:=o;have hk:wu l [] []=true:=rfl;exact(bc.a4c (OT H (eZ a) hk h dm)).mono λu w' h=>⟨h.1,Kp.wy h.2 []⟩
theorem a4e{α:Type}{enc:α→List Value}{d:Nat}{t E:TypeId}{len z:Nat}{zv:Value}{parts:Array (Nat×Operand)}{ty:TypeId}{pos:String}{after:Array Edge}(Ds:∀x,(enc x).length=z)(cs:List Value)(xs:List α)
  (vs:List Value)(H:ay D n l a)(he:lq l [] (parts.toList.map (·.2))=some vs)
  (hu:P.underlying t=some (.slice E))(hz:(P.info? E).map (·.size)=some z)(p8:(P.info? E).map (·.zero)=some (some zv))(hlen:Nat.ble (len*z) 16777216=true)(lx:Nat.blt 0 (len*z)=true)
  (hf:Instr.fill (λi=>some (i*z,z)) ((Array.range (len*z)).map (zv.cells[· %zv.cells.size]!)) ((parts.toList.map (·.1)).zip vs)=some ⟨cs⟩)(Dw:(xs.map enc).flatten=cs)(pb:xs.length=len):
  bc P ⟨some d,.buildSlice t len parts,ty,pos,after,none⟩ a w λv w'=>∃a1,v=.slice a1 len len∧Kp [] w w'∧cR a1=[w.heap.size]∧Ow E enc z w' a1 len xs:=by
 have hp:(parts.map λp=>(p.1,a.eval p.2)).toList=(parts.toList.map (·.1)).zip vs:=by
  rw[←KD H (eZ a) he,←OP];cases parts;simp
 have hr:=a44 (P:=P) (w:=w) (parts:=parts.map λp=>(p.1,a.eval p.2)) (cs:=cs) hu hz p8 hlen lx (by rw[hp];exact hf);have hN:=yF w cs E;have Gs:0<z:=by
  rcases Nat.eq_zero_or_pos z with h|h
  ·subst h;simp at lx
  ·exact h
 have hle:len*z≤16777216:=by simpa using hlen
 have oa:xs.length≤4611686018427387904:=by
  rw[pb];have:len*1≤len*z:=Nat.mul_le_mul_left _ Gs;omega
 refine bc.pa (v:=.slice (some ⟨w.heap.size,0,none⟩) len len) (w':=w.alloc (.cells ⟨cs⟩ E)) ?_ ⟨_,rfl,hN.1,by simp[cR],?_⟩
 ·simp only[execOp];rw[show(parts.map λx=>match x with|(i,x)=>(i,a.eval x))=parts.map λp=>(p.1,a.eval p.2)from rfl];simp[hr]
 ·have:=Ow.W7 (e:=E) Ds oa (w:=w.alloc (.cells ⟨cs⟩ E)) (b:=w.heap.size) (by rw[Dw];show(w.heap.push _)[w.heap.size]?=_;simp);rw[pb]at this;exact this
theorem a4f{α:Type}{d:Nat}{s x:Operand}{t ty e:TypeId}{pos:String}{after:Array Edge}{enc:α→List Value}{z:Nat}{zv:Value}{a1 a2:Option Addr}{n1 n2 c1 c2:Nat}{l1 l2:List α}(Ds:∀x,(enc x).length=z)(P1:∀x,o8 (enc x)=true)
  (q:List α)(hq:l1++l2=q)(H:ay D n l a)(hs:ev l [] s=some (.slice a1 n1 c1))(hx:ev l [] x=some (.slice a2 n2 c2))
  (jD:l1.length=n1)(kD:l2.length=n2)(hu:P.underlying t=some (.slice e))(hi:(P.info? e).map (λi=>(i.size,Nat.ble i.bytes 128,i.zero))=some (z,true,some zv))(o9:zv.cells.size=z)(hz:Nat.blt 0 z=true)
  (how:Ow e enc z w a1 c1 l1)(iX:Sl enc z w a2 l2)(hl:V.ln l1+V.ln l2≤1099511627776):
  bc P ⟨some d,.call ⟨.builtin .append,#[s,x],#[t,t]⟩,ty,pos,after,none⟩ a w λv w'=>∃ar cr,v=.slice ar q.length cr∧Kp (cR a1) w w'∧(ar=a1∨cR ar=[w.heap.size])∧Ow e enc z w' ar cr q:=by
 subst jD hq;obtain⟨bytes,kf,hb⟩:∃bytes,(P.info? e).map (λi=>(i.size,i.bytes,i.zero))=some (z,bytes,some zv)∧Nat.ble bytes 128=true:=by
  cases fO:P.info? e with
  |none=>simp[fO]at hi
  |some inf=>
   simp[fO]at hi;exact⟨inf.bytes,by simp[hi.1,hi.2.2],by simpa using hi.2.1⟩
 obtain⟨ar,cr,w',hr,h1,h2,h3⟩:=a48 (P:=P) (ty:=ty) (c2:=c2) Ds P1 hu kf o9 hz how iX kD hb (by unfold V.ln at hl;exact hl);refine bc.pa (v:=.slice ar (l1++l2).length cr) (w':=w') ?_ ⟨ar,cr,rfl,h1,h2,h3⟩;simp only[execOp,resolve,Sem.run_bind,Sem.run_pure,Result.andThen_ok,invoke,builtin,List.map_toArray,List.map_cons,List.map_nil,H.ev (eZ a) hs,H.ev (eZ a) hx,hr]
theorem cN{d:Nat}{x:Operand}{args:Array Operand}{ns:Array TypeId}{ty:TypeId}{pos:String}{after:Array Edge}{f:FuncId}{first as o5:List Value}{R:Value→World→Prop}(H:ay D n l a)
  (hx:callee l [] x=some (f,first,o5))(ha:lq l [] args.toList=some as)(hc:kW P f ⟨first++as++o5⟩ w R):
  bc P ⟨some d,.call ⟨.value x,args,ns⟩,ty,pos,after,none⟩ a w R:=λQ N hN=>by
 unfold callee at hx;split at hx
 ·rename_i f' fi ca e3;simp only[Option.some.injEq,Prod.mk.injEq]at hx;obtain⟨rfl,rfl,rfl⟩:=hx;have hr:(execOp a.eval ⟨some d,.call ⟨.value x,args,ns⟩,ty,pos,after,none⟩).run P w=.ok (.enter f' ⟨fi++as++ca⟩) w:=by
   simp only[execOp,resolve,Deferred.ofValue,H.ev (eZ a) e3,yy H (eZ a) ha,Sem.run_bind,Sem.run_pure,Result.andThen_ok,invoke];have:=hc.call w;simpa using this
  unfold Oper.wp;rw[hr];refine hc.run.mono ?_;rintro e w' ⟨v,rfl,hR⟩;exact hN _ _ hR
 ·cases hx
end
def Rp(P:Program)(fn:Func)(R:Ending→World→Prop):dx:=λa w=>a.defers=[]∧∃v,(results fn a.tmps).run P w=.ok v w∧R (.returned v) w
theorem lz{P:Program}{f:FuncId}{fn:Func}{c:Code}{args:List Value}{w:World}{R:Ending→World→Prop}{n:Nat}
  (hf:P.funcs[f]?=some fn)(hb:fn.body=some c)(hn:fn.ntmps=n)(hl:Nat.ble args.length n=true)
  (h:∀a,ay [] n (wx args 0) a→c.wp P (Qs (Rp P fn R) [] (Rp P fn R)) a w):Calls P f ⟨args⟩ w R:=by
 have hl:args.length≤n:=by simpa using hl
 refine calls_of_wp hf hb (wp_mono (h _ ?_) ?_)
 ·refine⟨rfl,by simp[hn];omega,?_⟩;intro e he;obtain⟨h1,h2,h3⟩:=a41 he;rw[h1];refine⟨λ_=>?_,λx=>absurd (λp hp=>by cases hp) x⟩;simp only[Nat.sub_zero]at h3;have aM:e.1<args.length:=by
   rcases Nat.lt_or_ge e.1 args.length with h|h
   ·exact h
   ·rw[List.getElem?_eq_none h]at h3;cases h3
  rw[Array.getElem?_append_left (by simpa using aM)];simpa using h3
 ·intro e a w q;cases e with
  |normal=>exact q
  |ret=>exact q
  |exit i=>exact q.elim
  |goto i=>exact q.elim
  |panic i=>exact q.elim
  |outgrown=>exact q.elim
def AE(P:Program)(l:SF)(w:World):ResultVar→Value→Prop
 | .tmp t,v=>dF l t=some ([],v)
 | .cell t T,v=>∃b cs,dF l t=some ([],.pointer (some ⟨b,0,none⟩))∧(loadVar T ⟨b,0,none⟩).run P w=.ok v w∧dh w b cs
theorem ay.iE{n:Nat}{l:SF}{a:Act}(H:ay D n l a){t:Nat}{v:Value}(h:dF l t=some ([],v)):a.tmps[t]?.getD undef=v:=by
 rw[←Array.getD_eq_getD_getElem?];exact H.tmp h
section
variable {P:Program} {fn:Func} {R:Ending→World→Prop} {n:Nat} {l:SF} {a:Act} {w:World}
theorem wC{r:ResultVar}{v:Value}(H:ay [] n l a)(hr:fn.results=#[r])(h:AE P l w r v)(hR:R (.returned v) w):Rp P fn R a w:=by
 refine⟨H.1,v,?_,hR⟩;cases r with
 |tmp t=>rw[results_tmp hr,H.tmp h]
 |cell t T=>
  obtain⟨b,cs,e1,e2,_⟩:=h;simp[results,hr,H.iE e1,asAddr,e2]
theorem Gx{r s:ResultVar}{v x:Value}(H:ay [] n l a)(hr:fn.results=#[r,s])(h:AE P l w r v)(h2:AE P l w s x)(hR:R (.returned (.tuple #[v,x])) w):Rp P fn R a w:=by
 refine⟨H.1,_,?_,hR⟩;cases r with
 |tmp t=>
  have e:=H.iE h;cases s with
  |tmp u=>simp[results,hr,e,H.iE h2]
  |cell u T=>
   obtain⟨b,cs,e1,e2,_⟩:=h2;simp[results,hr,e,H.iE e1,asAddr,e2]
 |cell t T=>
  obtain⟨b,cs,e1,e2,_⟩:=h;cases s with
  |tmp u=>simp[results,hr,H.iE e1,asAddr,e2,H.iE h2]
  |cell u T2=>
   obtain⟨b2,W9,k1,k2,_⟩:=h2;simp[results,hr,H.iE e1,asAddr,e2,H.iE k1,k2]
theorem Dx(H:ay [] n l a)(hr:fn.results=#[])(hR:R (.returned (.tuple #[])) w):Rp P fn R a w:=⟨H.1,_,by rw[results_none hr],hR⟩
theorem a4g{r s q:ResultVar}{v x y:Value}(H:ay [] n l a)(hr:fn.results=#[r,s,q])(h:AE P l w r v)(h2:AE P l w s x)(h3:AE P l w q y)(hR:R (.returned (.tuple #[v,x,y])) w):Rp P fn R a w:=by
 refine⟨H.1,_,?_,hR⟩;cases r with
 |tmp t=>
  have e:=H.iE h;cases s with
  |tmp u=>
   have e':=H.iE h2;cases q with
   |tmp z=>simp[results,hr,e,e',H.iE h3]
   |cell z T=>obtain⟨b,cs,e1,e2,_⟩:=h3;simp[results,hr,e,e',H.iE e1,asAddr,e2]
  |cell u T=>
   obtain⟨b2,W9,k1,k2,_⟩:=h2;cases q with
   |tmp z=>simp[results,hr,e,H.iE k1,k2,asAddr,H.iE h3]
   |cell z T=>obtain⟨b,cs,e1,e2,_⟩:=h3;simp[results,hr,e,H.iE k1,k2,H.iE e1,asAddr,e2]
 |cell t T=>
  obtain⟨b3,cs3,j1,j2,_⟩:=h;cases s with
  |tmp u=>
   have e':=H.iE h2;cases q with
   |tmp z=>simp[results,hr,H.iE j1,j2,asAddr,e',H.iE h3]
   |cell z T=>obtain⟨b,cs,e1,e2,_⟩:=h3;simp[results,hr,H.iE j1,j2,e',H.iE e1,asAddr,e2]
  |cell u T=>
   obtain⟨b2,W9,k1,k2,_⟩:=h2;cases q with
   |tmp z=>simp[results,hr,H.iE j1,j2,H.iE k1,k2,asAddr,H.iE h3]
   |cell z T=>obtain⟨b,cs,e1,e2,_⟩:=h3;simp[results,hr,H.iE j1,j2,H.iE k1,k2,H.iE e1,asAddr,e2]
theorem Wa{t b:Nat}{T:TypeId}{cs:List Value}{d:TypeDesc}(h:dF l t=some ([],.pointer (some ⟨b,0,none⟩)))(hb:dh w b cs)(hu:P.underlying T=some d)
  (hd:(match d with| .struct _| .array _ _=>true|_=>false)=true)(hz:(P.info? T).map (·.size)=some cs.length):AE P l w (.cell t T) (.agg ⟨cs⟩):=by
 refine⟨b,cs,h,?_,hb⟩;have hv:V.cG b 0 cs 0 w:=hb.jF (by simp);have hi:(isAgg T).run P w=.ok true w:=by
  cases d<;>simp at hd<;>simp[isAgg,run_underlying hu]
 have hl:=run_loadCells (P:=P) (w:=w) (b:=b) (off:=0) cs 0 #[] (ON (Below.refl _ _) hv);simp only[loadVar,Sem.run_bind,Result.andThen_ok,hi,if_true,ke hz,loadCells,hl,Sem.run_pure];simp
end
end
inductive Gh where
 |nil
 |mk (a:Option Addr) (c:Nat) (s:Nat→Nat→Gh)
def Gh.a:Gh→Option Addr
 | .nil=>none
 | .mk a _ _=>a
def Gh.c:Gh→Nat
 | .nil=>0
 | .mk _ c _=>c
def Gh.s:Gh→Nat→Nat→Gh
 | .nil=>λ_ _=>.nil
 | .mk _ _ s=>s
instance:Inhabited Gh:=⟨.nil⟩
def gL(l:List Gh):Nat→Gh:=λk=>l.getD k .nil
def sL(l:List (Nat→Gh)):Nat→Nat→Gh:=λi=>l.getD i (λ_=>.nil)
abbrev Av:=Nat→Prop
def F0:Av:=λ_=>False
structure Ty(α:Type) where
 z:Nat
 enc:α→(Nat→Gh)→List Value
 dW:Av→World→α→(Nat→Gh)→Prop
 len:∀x g,(enc x g).length=z
 one:∀x g,o8 (enc x g)=true
 kp:∀{M w w' X x g},dW M w x g→Kp X w w'→(∀b∈X,M b)→dW M w' x g
 dB:∀{M M' w x g},dW M w x g→(∀b,M' b→M b)→dW M' w x g
 fresh:∀{M w x g},dW M w x g→dW (λb=>M b∨w.heap.size≤b) w x g
structure pd{α:Type}(z:Nat)(enc:α→(Nat→Gh)→List Value)(M:Av)(w:World)(l:List α)(g:Gh):Prop where
 ok:0<l.length→cK g.a
 lt:0<l.length→ab g.a<w.heap.size
 av:0<l.length→¬M (ab g.a)
 get:∀i (h:i<l.length) j v,(enc l[i] (g.s i))[j]?=some v→w.cell? ⟨ab g.a,ao g.a+i*z+j,none⟩=some v
 cp:l.length≤g.c
section
variable {α:Type} {z:Nat} {enc:α→(Nat→Gh)→List Value} {M M':Av} {w w':World} {l:List α} {g:Gh} {X:List Nat}
theorem pd.kp(h:pd z enc M w l g)(k:Kp X w w')(hX:∀b∈X,M b):pd z enc M w' l g:=
 ⟨h.ok,λhl=>Nat.lt_of_lt_of_le (h.lt hl) k.size,h.av,λi hi j v hv=>by
  have hl:0<l.length:=by omega
  rw[World.cell?_of_block (w:=w) (k.block (ab g.a) (h.lt hl) (λhx=>h.av hl (hX _ hx)))];exact h.get i hi j v hv,h.cp⟩
theorem pd.dB(h:pd z enc M w l g)(hM:∀b,M' b→M b):pd z enc M' w l g:=⟨h.ok,h.lt,λhl hm=>h.av hl (hM _ hm),h.get,h.cp⟩
theorem pd.fresh(h:pd z enc M w l g):pd z enc (λb=>M b∨w.heap.size≤b) w l g:=
 ⟨h.ok,h.lt,λhl hm=>by
  rcases hm with hm|hm
  ·exact h.av hl hm
  ·have:=h.lt hl;omega,h.get,h.cp⟩
theorem pd.nil:pd z enc M w ([]:List α) g:=⟨λh=>by simp at h,λh=>by simp at h,λh=>by simp at h,λi h=>(by simp at h),Nat.zero_le _⟩
end
def cI{α:Type}(T:Ty α)(M:Av)(w:World)(l:List α)(g:Gh):Prop:=pd T.z T.enc M w l g∧∀i (h:i<l.length),T.dW M w l[i] (g.s i)
section
variable {α:Type} {T:Ty α} {M M':Av} {w w':World} {l:List α} {g:Gh} {X:List Nat}
theorem cI.kp(h:cI T M w l g)(k:Kp X w w')(hX:∀b∈X,M b):cI T M w' l g:=⟨h.1.kp k hX,λi hi=>T.kp (h.2 i hi) k hX⟩
theorem cI.dB(h:cI T M w l g)(hM:∀b,M' b→M b):cI T M' w l g:=⟨h.1.dB hM,λi hi=>T.dB (h.2 i hi) hM⟩
theorem cI.fresh(h:cI T M w l g):cI T (λb=>M b∨w.heap.size≤b) w l g:=⟨h.1.fresh,λi hi=>T.fresh (h.2 i hi)⟩
theorem cI.nil:cI T M w [] g:=⟨pd.nil,λi h=>by simp at h⟩
theorem cI.f0(h:cI T M w l g):cI T F0 w l g:=h.dB λ_ h=>h.elim
theorem cI.below(h:cI T M w l g)(hb:Below w.heap.size w w'):cI T M w' l g:=h.kp (Kp.wy hb []) (by simp)
theorem cI.aQ [Inhabited α](h:cI T M w l g){i:Int}(hi:0≤i∧i<ln l)(j:Nat){v:Value}(hv:(T.enc (gi l i) (g.s i.toNat))[j]?=some v):V.aQ ⟨ab g.a,ao g.a+i.toNat*T.z+j,none⟩ v w:=by
 have hl:i.toNat<l.length:=by unfold ln at hi;omega
 have hg:gi l i=l[i.toNat]:=by simp[gi,List.getD_eq_getElem?_getD,List.getElem?_eq_getElem hl]
 rw[hg]at hv;exact⟨h.1.get _ hl j v hv,h.1.lt (by omega)⟩
theorem cI.gC [Inhabited α](h:cI T M w l g){i:Int}(hi:0≤i∧i<ln l)(off:Nat){vs:List Value}(hv:((T.enc (gi l i) (g.s i.toNat)).drop off).take vs.length=vs):
  V.cG (ab g.a) (ao g.a+i.toNat*T.z+off) vs 0 w:=by
 refine Gr _ 0 λq hq=>?_;have h1:(((T.enc (gi l i) (g.s i.toNat)).drop off).take vs.length)[q]?=some vs[q]:=by rw[hv];exact List.getElem?_eq_getElem hq
 rw[List.getElem?_take_of_lt hq,List.getElem?_drop]at h1;have:=h.aQ hi (off+q) h1;rw[Nat.zero_add,Nat.add_assoc];exact this
theorem cI.ib(h:cI T M w l g){i:Int}(hi:0≤i∧i<ln l):cK g.a∧0≤i∧i<ln l:=⟨h.1.ok (by unfold ln at hi;omega),hi⟩
theorem cI.el [Inhabited α](h:cI T M w l g){i:Int}(hi:0≤i∧i<ln l):T.dW M w (gi l i) (g.s i.toNat):=by
 have hl:i.toNat<l.length:=by unfold ln at hi;omega
 have hg:gi l i=l[i.toNat]:=by simp[gi,List.getD_eq_getElem?_getD,List.getElem?_eq_getElem hl]
 rw[hg];exact h.2 _ hl
end
def Ty.flat{α:Type}(z:Nat)(enc:α→List Value)(hl:∀x,(enc x).length=z)(ho:∀x,o8 (enc x)=true):Ty α where
 z:=z
 enc:=λx _=>enc x
 dW:=λ_ _ _ _=>True
 len:=λx _=>hl x
 one:=λx _=>ho x
 kp:=λ_ _ _=>trivial
 dB:=λ_ _=>trivial
 fresh:=λ_=>trivial
def tI(k:IntKind):Ty Int:=.flat 1 (λx=>[.int k x]) (λ_=>rfl) (λ_=>rfl)
def tS:Ty J:=.flat 1 (λx=>[.string ⟨⟨x⟩⟩]) (λ_=>rfl) (λ_=>rfl)
def Ty.sl{α:Type}(T:Ty α):Ty (List α) where
 z:=1
 enc:=λl g=>[.slice (g 0).a l.length (g 0).c]
 dW:=λM w l g=>cI T M w l (g 0)
 len:=λ_ _=>rfl
 one:=λ_ _=>rfl
 kp:=λh k hX=>cI.kp h k hX
 dB:=λh hM=>cI.dB h hM
 fresh:=λh=>cI.fresh h
theorem a4h{α:Type}{T:Ty α}{M:Av}{w:World}{x:List α}{g:Nat→Gh}(h:(Ty.sl T).dW M w x g):cI T M w x (g 0):=h
def dC{α:Type}:List α→(Nat→Nat→Gh)→Nat→List (α×(Nat→Gh))
 |[],_,_=>[]
 |x::r,s,i=>(x,s i)::dC r s (i+1)
theorem er{α:Type}:∀(l:List α)(s:Nat→Nat→Gh)(i:Nat),(dC l s i).length=l.length
 |[],_,_=>rfl
 |x::r,s,i=>by simp[dC,er r s (i+1)]
theorem KJ{α:Type}:∀(l:List α)(s:Nat→Nat→Gh)(i q:Nat)(h:q<(dC l s i).length),(dC l s i)[q]=(l[q]'(by rw[er]at h;exact h),s (i+q))
 |x::r,s,i,0,h=>by simp[dC]
 |x::r,s,i,q+1,h=>by
  simp only[dC,List.getElem_cons_succ];rw[KJ r s (i+1) q];simp[Nat.add_assoc,Nat.add_comm 1 q]
theorem KK{α:Type}:∀(l:List α)(s s':Nat→Nat→Gh)(i:Nat),(∀q,q<l.length→s (i+q)=s' (i+q))→dC l s i=dC l s' i
 |[],_,_,_,_=>rfl
 |x::r,s,s',i,h=>by
  simp only[dC];have h0:=h 0 (by simp);rw[Nat.add_zero]at h0;rw[h0,KK r s s' (i+1) (λq hq=>by
   have:=h (q+1) (by simpa using hq);rwa [Nat.add_assoc,Nat.add_comm 1 q])]
def wD(n:Nat)(s1 s2:Nat→Nat→Gh):Nat→Nat→Gh:=λi=>if i<n then s1 i else s2 (i-n)
theorem Wb{α:Type}:∀(l:List α)(s s':Nat→Nat→Gh)(i j:Nat),(∀q,s (i+q)=s' (j+q))→dC l s i=dC l s' j
 |[],_,_,_,_,_=>rfl
 |x::r,s,s',i,j,h=>by
  simp only[dC];have h0:=h 0;rw[Nat.add_zero,Nat.add_zero]at h0;rw[h0,Wb r s s' (i+1) (j+1) (λq=>by
   have:=h (q+1);rwa [Nat.add_assoc,Nat.add_comm 1 q,Nat.add_assoc,Nat.add_comm 1 q])]
theorem Gy{α:Type}:∀(l1 l2:List α)(s:Nat→Nat→Gh)(i:Nat),dC (l1++l2) s i=dC l1 s i++dC l2 s (i+l1.length)
 |[],l2,s,i=>by simp[dC]
 |x::r,l2,s,i=>by
  simp only[List.cons_append,dC,Gy r l2 s (i+1),List.length_cons];rw[Nat.add_assoc,Nat.add_comm 1 r.length]
theorem a4i{α:Type}(l1 l2:List α)(s1 s2:Nat→Nat→Gh):dC (l1++l2) (wD l1.length s1 s2) 0=dC l1 s1 0++dC l2 s2 0:=by
 rw[Gy];congr 1
 ·exact KK _ _ _ _ λq hq=>by simp[wD,hq]
 ·exact Wb _ _ _ _ _ λq=>by
   simp only[wD];rw[if_neg (by omega)];congr 1;omega
def ic{α:Type}(T:Ty α):α×(Nat→Gh)→List Value:=λp=>T.enc p.1 p.2
structure gN{α:Type}(E:TypeId)(T:Ty α)(M:Av)(w:World)(l:List α)(g:Gh):Prop where
 ow:Ow E (ic T) T.z w g.a g.c (dC l g.s 0)
 dW:∀i (h:i<l.length),T.dW M w l[i] (g.s i)
section
variable {α:Type} {E:TypeId} {T:Ty α} {M M':Av} {w w':World} {l:List α} {g:Gh} {X:List Nat}
theorem gN.kp(h:gN E T M w l g)(k:Kp X w w')(hM:∀b∈X,M b)(hX:∀b∈cR g.a,b∉X):gN E T M w' l g:=⟨h.ow.kp k hX,λi hi=>T.kp (h.dW i hi) k hM⟩
theorem gN.dB(h:gN E T M w l g)(hM:∀b,M' b→M b):gN E T M' w l g:=⟨h.ow,λi hi=>T.dB (h.dW i hi) hM⟩
theorem gN.fresh(h:gN E T M w l g):gN E T (λb=>M b∨w.heap.size≤b) w l g:=⟨h.ow,λi hi=>T.fresh (h.dW i hi)⟩
theorem a4j{α:Type}{z:Nat}{T:Ty α}{w:World}{a:Option Addr}{l:List α}{s:Nat→Nat→Gh}(h:Sl (ic T) z w a (dC l s 0)):
  ∀i (h:i<l.length) j v,(T.enc l[i] (s i))[j]?=some v→w.cell? ⟨ab a,ao a+i*z+j,none⟩=some v:=λi hi j v hv=>by
 have kC:i<(dC l s 0).length:=by rw[er];exact hi
 refine h.get i kC j v ?_;rw[KJ];simpa[ic]using hv
theorem gN.cp(h:gN E T M w l g):l.length≤g.c:=by
 have hl:=er l g.s 0;rcases h.ow.row.2 with⟨h0,h1⟩|⟨b,cap,fP,hv,_,_,h3,_⟩
 ·omega
 ·simp only[Value.slice.injEq]at hv;omega
theorem gN.sl(h:gN E T M w l g)(P6:∀b∈cR g.a,¬M' b)(hM:∀b,M' b→M b):cI T M' w l g:=by
 have hs:=h.ow.sl (λ(p:α×(Nat→Gh))=>T.len p.1 p.2);refine⟨⟨λhl=>hs.ok (by rw[er];exact hl),λhl=>hs.lt (by rw[er];exact hl),λhl=>P6 _ (h.ow.mem (by rw[er];exact hl)),a4j hs,h.cp⟩,λi hi=>T.dB (h.dW i hi) hM⟩
theorem gN.Gq(h:gN E T M w l g):cI T F0 w l g:=h.sl (λ_ _ h=>h.elim) (λ_ h=>h.elim)
theorem gN.el [Inhabited α](h:gN E T M w l g){i:Int}(hi:0≤i∧i<V.ln l):T.dW M w (gi l i) (g.s i.toNat):=by
 have hl:i.toNat<l.length:=by unfold V.ln at hi;omega
 have hg:gi l i=l[i.toNat]:=by simp[gi,List.getD_eq_getElem?_getD,List.getElem?_eq_getElem hl]
 rw[hg];exact h.dW _ hl
theorem gN.nil:gN E T M w [] .nil:=⟨Ow.nil _ _ _ _,λi h=>by simp at h⟩
theorem cI.zip(h:cI T M w l g):Sl (ic T) T.z w g.a (dC l g.s 0):=by
 refine⟨λhl=>h.1.ok (by rw[er]at hl;exact hl),λhl=>h.1.lt (by rw[er]at hl;exact hl),λi hi j v hv=>?_⟩;rw[KJ]at hv;exact h.1.get i (by rw[er]at hi;exact hi) j v (by simpa[ic]using hv)
end
structure aj where
 fp:List Nat
 p:Av→World→Prop
 kp:∀{M w w' X},p M w→Kp X w w'→(∀b∈X,M b)→(∀b∈fp,b∉X)→p M w'
 dB:∀{M M' w},p M w→(∀b,M' b→M b)→p M' w
 fresh:∀{M w},p M w→p (λb=>M b∨w.heap.size≤b) w
 lt:∀{M w},p M w→∀b∈fp,b<w.heap.size
def aj.im{α:Type}(T:Ty α)(l:List α)(g:Gh):aj where
 fp:=[]
 p:=λM w=>cI T M w l g
 kp:=λh k hM _=>h.kp k hM
 dB:=λh hM=>h.dB hM
 fresh:=λh=>h.fresh
 lt:=λ_ b hb=>by cases hb
def aj.own{α:Type}(E:TypeId)(T:Ty α)(l:List α)(g:Gh):aj where
 fp:=cR g.a
 p:=λM w=>gN E T M w l g
 kp:=λh k hM hX=>h.kp k hM hX
 dB:=λh hM=>h.dB hM
 fresh:=λh=>h.fresh
 lt:=λh=>h.ow.lt
def aj.cq(b:Nat)(cs:List Value):aj where
 fp:=[b]
 p:=λ_ w=>dh w b cs
 kp:=λh k _ hX=>h.kp k (hX b (by simp))
 dB:=λh _=>h
 fresh:=λh=>h
 lt:=λh=>h.W8
def aj.ro(b:Nat)(cs:List Value):aj where
 fp:=[]
 p:=λM w=>dh w b cs∧¬M b
 kp:=λh k hM _=>⟨h.1.kp k (λhx=>h.2 (hM _ hx)),h.2⟩
 dB:=λh hM=>⟨h.1,λhb=>h.2 (hM _ hb)⟩
 fresh:=λh=>⟨h.1,λhb=>by
  rcases hb with hb|hb
  ·exact h.2 hb
  ·have:=h.1.lt;omega⟩
 lt:=λ_ b hb=>by cases hb
def aj.row(k:IntKind)(b:Nat)(l:List Int)(n:Int):aj where
 fp:=[b]
 p:=λ_ w=>Rw k w b l∧V.ln l=n
 kp:=λh kp _ hX=>⟨h.1.kp kp (hX b (by simp)),h.2⟩
 dB:=λh _=>h
 fresh:=λh=>h
 lt:=λh=>by simpa using h.1.lt
def aj.none:aj where
 fp:=[]
 p:=λ_ _=>True
 kp:=λ_ _ _ _=>trivial
 dB:=λ_ _=>trivial
 fresh:=λ_=>trivial
 lt:=λ_ b hb=>by cases hb
def aG:List aj→List Nat
 |[]=>[]
 |e::r=>e.fp++aG r
theorem kG{L:List aj}{b:Nat}:b∈aG L↔∃e∈L,b∈e.fp:=by
 induction L with
 |nil=>simp[aG]
 |cons e r ih=>simp[aG,ih]
def eu(M:Av)(L:List aj):Av:=λb=>M b∨b∈aG L
structure SH(M:Av)(X:List Nat)(w0:World)(L:List aj)(w:World):Prop where
 kp:Kp X w0 w
 nd:L.Pairwise λe f=>Dj e.fp f.fp
 lo:∀b∈aG L,w0.heap.size≤b∨b∈X
 nm:∀b∈aG L,¬M b
 mx:∀b,M b→b<w0.heap.size
 ps:∀e∈L,e.p (eu M L) w
abbrev S0(M:Av)(L:List aj)(w:World):Prop:=SH M (aG L) w L w
def dn(L:List aj)(ks:List Nat):List aj:=ks.map λk=>L.getD k .none
def Dy(L:List aj)(k:Nat):List Nat→Bool
 |[]=>true
 |r::q=>(!(Nat.beq k r)||(L.getD k .none).fp.isEmpty)&&Dy L k q
def ie(L:List aj):List Nat→Bool
 |[]=>true
 |k::q=>Dy L k q&&ie L q
def pf(L:List aj)(rs:List Nat):List Nat→Bool
 |[]=>true
 |k::q=>Dy L k rs&&pf L rs q
section
variable {M:Av} {X:List Nat} {w0 w w':World} {L:List aj}
theorem Wc:∀{L:List aj},L.Pairwise (λe f=>Dj e.fp f.fp)→∀(i j:Nat),i≠j→Dj (L.getD i .none).fp (L.getD j .none).fp
 |[],_,i,j,_,y,h=>by simp[aj.none]at h
 |l::r,hn,i,j,cY,y,h=>by
  rw[List.pairwise_cons]at hn;have mem:∀{k:Nat}{y:Nat},y∈(r.getD k .none).fp→r.getD k .none∈r:=λ{k y} hy=>by
   rw[List.getD_eq_getElem?_getD]at hy⊢;cases hg:r[k]? with
   |none=>simp[hg,aj.none]at hy
   |some l=>simp only[Option.getD_some];exact List.mem_of_getElem? hg
  match i,j with
  |0,0=>exact absurd rfl cY
  |0,j+1=>
   simp only[List.getD_cons_zero,List.getD_cons_succ]at h⊢;exact λhy=>hn.1 _ (mem hy) y h hy
  |i+1,0=>
   simp only[List.getD_cons_zero,List.getD_cons_succ]at h⊢;exact λhy=>hn.1 _ (mem h) y hy h
  |i+1,j+1=>
   simp only[List.getD_cons_succ]at h⊢;exact Wc hn.2 i j (by omega) y h
theorem SH.dj(h:SH M X w0 L w){a b:Nat}(rn:(!(Nat.beq a b)||(L.getD a .none).fp.isEmpty)=true):Dj (L.getD a .none).fp (L.getD b .none).fp:=by
 rw[Bool.or_eq_true]at rn;rcases rn with rn|rn
 ·exact Wc h.nd a b (λe=>by subst e;simp at rn)
 ·rw[List.isEmpty_iff]at rn;rw[rn];intro y hy;cases hy
theorem a4k{L:List aj}{k b:Nat}(hb:b∈(L.getD k .none).fp):L.getD k .none∈L:=by
 rw[List.getD_eq_getElem?_getD]at hb⊢;cases hg:L[k]? with
 |none=>simp[hg,aj.none]at hb
 |some l=>simp only[Option.getD_some];exact List.mem_of_getElem? hg
theorem P7{L:List aj}{k:Nat}:∀{rs:List Nat},Dy L k rs=true→∀r∈rs,(!(Nat.beq k r)||(L.getD k .none).fp.isEmpty)=true
 |[],_,r,hr=>by cases hr
 |q::rs,h,r,hr=>by
  unfold Dy at h;rw[Bool.and_eq_true]at h;rcases List.mem_cons.1 hr with rfl|hr
  ·exact h.1
  ·exact P7 h.2 r hr
theorem Wd{L:List aj}{rs:List Nat}:∀{ks:List Nat},pf L rs ks=true→∀k∈ks,Dy L k rs=true
 |[],_,k,hk=>by cases hk
 |q::ks,h,k,hk=>by
  unfold pf at h;rw[Bool.and_eq_true]at h;rcases List.mem_cons.1 hk with rfl|hk
  ·exact h.1
  ·exact Wd h.2 k hk
theorem SH.KL(h:SH M X w0 L w):∀{ks:List Nat},ie L ks=true→(dn L ks).Pairwise λe f=>Dj e.fp f.fp
 |[],_=>List.Pairwise.nil
 |k::q,hk=>by
  unfold ie at hk;rw[Bool.and_eq_true]at hk;show((L.getD k .none)::dn L q).Pairwise _;rw[List.pairwise_cons];refine⟨λe he=>?_,h.KL hk.2⟩;obtain⟨r,hr,rfl⟩:=List.mem_map.1 he;exact h.dj (P7 hk.1 r hr)
theorem P8{ks:List Nat}{b:Nat}(h:b∈aG (dn L ks)):∃k∈ks,b∈(L.getD k .none).fp:=by
 obtain⟨e,he,hb⟩:=kG.1 h;obtain⟨k,hk,rfl⟩:=List.mem_map.1 he;exact⟨k,hk,hb⟩
theorem pg{ks:List Nat}{b:Nat}(h:b∈aG (dn L ks)):b∈aG L:=by
 obtain⟨k,_,hb⟩:=P8 h;exact kG.2 ⟨_,a4k hb,hb⟩
theorem SH.P9(h:SH M X w0 L w){ks:List Nat}{e:aj}(he:e∈dn L ks):e.p (eu M L) w:=by
 obtain⟨k,_,rfl⟩:=List.mem_map.1 he;rw[List.getD_eq_getElem?_getD];cases hg:L[k]? with
 |none=>exact trivial
 |some l=>exact h.ps l (List.mem_of_getElem? hg)
theorem SH.We(h:SH M X w0 L w){b:Nat}(hb:b∈aG L):b<w.heap.size:=by
 obtain⟨e,he,hb⟩:=kG.1 hb;exact e.lt (h.ps e he) b hb
theorem SH.Wf(h:SH M X w0 L w){ks rs:List Nat}(hx:pf L rs ks=true){b:Nat}(h1:b∈aG (dn L ks))(h2:b∈aG (dn L rs)):False:=by
 obtain⟨k,hk,hb⟩:=P8 h1;obtain⟨r,hr,yJ⟩:=P8 h2;exact h.dj (P7 (Wd hx k hk) r hr) b hb yJ
theorem SH.bx(h:SH M X w0 L w)(ks:List Nat)(hk:ie L ks=true):SH M X w0 (dn L ks) w:=
 ⟨h.kp,h.KL hk,λb hb=>h.lo b (pg hb),λb hb=>h.nm b (pg hb),h.mx,λe he=>e.dB (h.P9 he) λb hb=>by
  rcases hb with hb|hb
  ·exact .inl hb
  ·exact .inr (pg hb)⟩
theorem SH.hand(h:SH M X w0 L w)(ks rs:List Nat)(hk:ie L ks=true)(hx:pf L rs ks=true):S0 (eu M (dn L rs)) (dn L ks) w:=by
 refine⟨Kp.refl _ _,h.KL hk,λb hb=>.inr hb,λb hb hm=>?_,λb hm=>?_,λe he=>e.dB (h.P9 he) λb hb=>?_⟩
 ·rcases hm with hm|hm
  ·exact h.nm b (pg hb) hm
  ·exact h.Wf hx hb hm
 ·rcases hm with hm|hm
  ·exact Nat.lt_of_lt_of_le (h.mx b hm) h.kp.size
  ·exact h.We (pg hm)
 ·rcases hb with(hb|hb)|hb
  ·exact .inl hb
  ·exact .inr (pg hb)
  ·exact .inr (pg hb)
theorem SH.join(h:SH M X w0 L w)(ks rs:List Nat)(hr:ie L rs=true)(hx:pf L rs ks=true){L':List aj}(h2:SH (eu M (dn L rs)) (aG (dn L ks)) w L' w'):SH M X w0 (L'++dn L rs) w':=by
 have fX:∀{b:Nat},b∈aG (L'++dn L rs)→b∈aG L'∨b∈aG (dn L rs):=λhb=>by
  obtain⟨e,he,hb⟩:=kG.1 hb;rcases List.mem_append.1 he with he|he
  ·exact .inl (kG.2 ⟨e,he,hb⟩)
  ·exact .inr (kG.2 ⟨e,he,hb⟩)
 refine⟨h.kp.trans h2.kp (λy hy=>?_),?_,λb hb=>?_,λb hb=>?_,h.mx,λe he=>?_⟩
 ·rcases h.lo y (pg hy)with h1|h1
  ·exact .inr h1
  ·exact .inl h1
 ·rw[List.pairwise_append];refine⟨h2.nd,h.KL hr,λe he f hf y hy AF=>?_⟩;exact h2.nm y (kG.2 ⟨e,he,hy⟩) (.inr (kG.2 ⟨f,hf,AF⟩))
 ·rcases fX hb with hb|hb
  ·rcases h2.lo b hb with h1|h1
   ·exact .inl (Nat.le_trans h.kp.size h1)
   ·exact h.lo b (pg h1)
  ·exact h.lo b (pg hb)
 ·rcases fX hb with hb|hb
  ·exact λhm=>h2.nm b hb (.inl hm)
  ·exact h.nm b (pg hb)
 ·rcases List.mem_append.1 he with he|he
  ·refine e.dB (h2.ps e he) λb hb=>?_;rcases hb with hb|hb
   ·exact .inl (.inl hb)
   ·rcases fX hb with hb|hb
    ·exact .inr hb
    ·exact .inl (.inr hb)
  ·have hp:=e.fresh (h.P9 he);refine e.dB (e.kp hp h2.kp (λb hb=>.inl (.inr (pg hb))) (λb hb yJ=>?_)) λb hb=>?_
   ·exact h.Wf hx yJ (kG.2 ⟨e,he,hb⟩)
   ·rcases hb with hb|hb
    ·exact .inl (.inl hb)
    ·rcases fX hb with hb|hb
     ·rcases h2.lo b hb with h1|h1
      ·exact .inr h1
      ·exact .inl (.inr (pg h1))
     ·exact .inl (.inr (pg hb))
theorem SH.below(h:SH M X w0 L w)(hb:Below w.heap.size w w'):SH M X w0 L w':=
 ⟨h.kp.step hb,h.nd,h.lo,h.nm,h.mx,λe he=>e.kp (h.ps e he) (Kp.wy hb []) (by simp) (by simp)⟩
theorem SH.add(h:SH M X w0 L w){e:aj}(hf:e.fp=[])(hp:e.p (eu M L) w):SH M X w0 (e::L) w:=by
 have Pa:aG (e::L)=aG L:=by simp[aG,hf]
 have P6:eu M (e::L)=eu M L:=by unfold eu;rw[Pa]
 refine⟨h.kp,?_,by rw[Pa];exact h.lo,by rw[Pa];exact h.nm,h.mx,λe' he=>?_⟩
 ·rw[List.pairwise_cons];exact⟨λf _ y hy=>(by rw[hf]at hy;cases hy),h.nd⟩
 ·rw[P6];rcases List.mem_cons.1 he with rfl|he
  ·exact hp
  ·exact h.ps e' he
theorem SH.rp(h:SH M X w0 L w){α:Type}{T:Ty α}{l:List α}{g:Gh}(hs:cI T (eu M L) w l g):SH M X w0 (.im T l g::L) w:=h.add rfl hs
theorem SH.KM(h:SH M X w0 L w){α:Type}(E:TypeId)(T:Ty α):SH M X w0 (.own E T ([]:List α) .nil::L) w:=h.add rfl gN.nil
theorem SH.at(h:SH M X w0 L w)(k:Nat){e:aj}(hk:L[k]?=some e):e.p (eu M L) w:=h.ps e (List.mem_of_getElem? hk)
theorem SH.im(h:SH M X w0 L w)(k:Nat){α:Type}{T:Ty α}{l:List α}{g:Gh}(hk:L[k]?=some (.im T l g)):cI T (eu M L) w l g:=h.at k hk
theorem SH.ow(h:SH M X w0 L w)(k:Nat){α:Type}{E:TypeId}{T:Ty α}{l:List α}{g:Gh}(hk:L[k]?=some (.own E T l g)):gN E T (eu M L) w l g:=h.at k hk
theorem SH.cd(h:SH M X w0 L w)(k:Nat){α:Type}{E:TypeId}{T:Ty α}{l:List α}{g:Gh}(hk:L[k]?=some (.own E T l g)):cI T F0 w l g:=(h.ow k hk).Gq
theorem SH.bk(h:SH M X w0 L w)(k:Nat){b:Nat}{cs:List Value}(hk:L[k]?=some (.cq b cs)):dh w b cs:=h.at k hk
theorem SH.ro(h:SH M X w0 L w)(k:Nat){b:Nat}{cs:List Value}(hk:L[k]?=some (.ro b cs)):dh w b cs:=(h.at k hk).1
theorem SH.rw(h:SH M X w0 L w)(k:Nat){b:Nat}{q:IntKind}{l:List Int}{n:Int}(hk:L[k]?=some (.row q b l n)):Rw q w b l∧V.ln l=n:=h.at k hk
theorem SH.Wg{α:Type}{E:TypeId}{T:Ty α}{l:List α}{g:Gh}(h:SH M X w0 (.own E T l g::L) w):SH M X w0 (.im T l g::L) w:=by
 have nx:∀{b:Nat},b∈aG (aj.im T l g::L)→b∈aG (aj.own E T l g::L):=λhb=>by
  simp only[aG,List.mem_append]at hb⊢;rcases hb with hb|hb
  ·cases hb
  ·exact .inr hb
 refine⟨h.kp,?_,λb hb=>h.lo b (nx hb),λb hb=>h.nm b (nx hb),h.mx,λe he=>?_⟩
 ·have:=h.nd;rw[List.pairwise_cons]at this⊢;exact⟨λf _ y hy=>(by cases hy),this.2⟩
 ·rcases List.mem_cons.1 he with rfl|he
  ·have ho:gN E T (eu M (.own E T l g::L)) w l g:=h.ps _ List.mem_cons_self;refine ho.sl (λb hb hm=>?_) (λb hm=>?_)
   ·rcases hm with hm|hm
    ·exact h.nm b (by simp only[aG,List.mem_append];exact .inl hb) hm
    ·have ny:b∈aG L:=by
      simp only[aG,List.mem_append]at hm;rcases hm with hm|hm
      ·cases hm
      ·exact hm
     have hn:=h.nd;rw[List.pairwise_cons]at hn;obtain⟨e,he,AG⟩:=kG.1 ny;exact hn.1 e he b hb AG
   ·rcases hm with hm|hm
    ·exact .inl hm
    ·exact .inr (nx hm)
  ·exact e.dB (h.ps e (List.mem_cons_of_mem _ he)) λb hb=>by
    rcases hb with hb|hb
    ·exact .inl hb
    ·exact .inr (nx hb)
end
theorem S0.nil(w:World):S0 F0 [] w:=⟨Kp.refl _ _,List.Pairwise.nil,by simp[aG],by simp[aG],λ_ (hf:False)=>hf.elim,by simp⟩
theorem cj{w:World}{L:List aj}(h:S0 F0 L w∧aG L=[]){α:Type}{T:Ty α}{l:List α}{g:Gh}{M:Av}(hs:cI T M w l g):S0 F0 (.im T l g::L) w∧aG (.im T l g::L)=[]:=by
 refine⟨?_,by simp only[aG,h.2];rfl⟩;have h1:SH F0 (aG (.im T l g::L)) w L w:=by
  have:aG (.im T l g::L)=aG L:=by simp[aG,aj.im]
  rw[this];exact h.1
 refine h1.rp (hs.dB λb hb=>?_);rcases hb with hb|hb
 ·exact hb.elim
 ·rw[h.2]at hb;cases hb
theorem dJ{w:World}{L:List aj}(h:S0 F0 L w∧aG L=[]){b:Nat}{cs:List Value}(hs:dh w b cs):S0 F0 (.ro b cs::L) w∧aG (.ro b cs::L)=[]:=by
 refine⟨?_,by simp only[aG,h.2];rfl⟩;have h1:SH F0 (aG (.ro b cs::L)) w L w:=by
  have:aG (.ro b cs::L)=aG L:=by simp[aG,aj.ro]
  rw[this];exact h.1
 refine h1.add rfl ⟨hs,λhb=>?_⟩;rcases hb with hb|hb
 ·exact hb.elim
 ·rw[h.2]at hb;cases hb
theorem bz{w:World}:S0 F0 [] w∧aG []=[]:=⟨S0.nil w,rfl⟩
theorem Pb{P:Program}{f:FuncId}{args:Array Value}{v:Value}(hc:∀w,(callFunc f args).run P w=.ok (.enter f args) w)
  (h:∀w,S0 F0 [] w→Calls P f args w λe w'=>∃u,e=.returned u∧u=v∧SH F0 (aG []) w [] w'):wv P f args v:=
 a42 hc λw=>(h w (S0.nil w)).mono (by rintro e w' ⟨u,rfl,rfl,hS⟩;exact⟨rfl,hS.kp.below⟩)
theorem sN{P:Program}{f:FuncId}{args:Array Value}{v:Value}{w:World}{L:List aj}(hL:S0 F0 L w∧aG L=[])(hc:∀w,(callFunc f args).run P w=.ok (.enter f args) w)
  (h:∀w',S0 F0 L w'→Calls P f args w' λe kB=>∃u,e=.returned u∧u=v∧SH F0 (aG L) w' [] kB):dV P f args v w:=
 .inl ⟨hc,λw' hb=>by
  have h0:S0 F0 L w':=by
   have h1:=hL.1.below hb;refine⟨Kp.refl _ _,h1.nd,λb hb=>(by rw[hL.2]at hb;cases hb),h1.nm,λ_ (hf:False)=>hf.elim,h1.ps⟩
  refine(h w' h0).mono ?_;rintro e kB ⟨u,rfl,rfl,hS⟩;refine⟨rfl,?_⟩;have:=hS.kp;rw[hL.2]at this;exact this.below⟩
def Dz(s:J)(c:Int):Int:=Lib.indexByte s c.toNat.toUInt8
theorem a4l{P:Program}{f:FuncId}{fn:Func}(hf:P.funcs[f]?=some fn)(a4m:(fn.name== "runtime.NumGoroutine")=false)
  (hb:fn.body.isNone=true)(hn:Extern.findNext fn=none)(he:Extern.find fn=some Extern.BytealgIndexByte.indexByte)(s:J)(c:Int)(w:World):dV P f ⟨[.string ⟨⟨s⟩⟩,.int .u8 c]⟩ (.int .i64 (Dz s c)) w:=
 .inr λw' _=>by rw[run_callFunc_extern hf a4m hb hn he,Lib.run_indexByteString];rfl
section
variable {D:List Deferred}
theorem Kp.wide{X Y:List Nat}{w w':World}(h:Kp X w w')(hs:∀b∈X,b∈Y):Kp Y w w':=⟨h.os,h.tape,h.output,h.size,λk hk hx=>h.block k hk λhy=>hx (hs k hy)⟩
theorem SH.step{M:Av}{L L':List aj}{w w':World}(h:S0 M L w)(k:Kp (aG L) w w')(nd:L'.Pairwise λe f=>Dj e.fp f.fp)(lo:∀b∈aG L',w.heap.size≤b∨b∈aG L)(ps:∀e∈L',e.p (eu M L') w'):SH M (aG L) w L' w':=
 ⟨k,nd,lo,λb hb hm=>by
  rcases lo b hb with h1|h1
  ·have:=h.mx b hm;omega
  ·exact h.nm b h1 hm,h.mx,ps⟩
theorem Ty.step{α:Type}(T:Ty α){M:Av}{L L':List aj}{w w':World}{x:α}{g:Nat→Gh}(_h:S0 M L w)(k:Kp (aG L) w w')(lo:∀b∈aG L',w.heap.size≤b∨b∈aG L)(hi:T.dW (eu M L) w x g):T.dW (eu M L') w' x g:=by
 refine T.dB (T.kp (T.fresh hi) k (λb hb=>.inl (.inr hb))) λb hb=>?_;rcases hb with hb|hb
 ·exact .inl (.inl hb)
 ·rcases lo b hb with h1|h1
  ·exact .inr h1
  ·exact .inl (.inr h1)
section
variable {P:Program} {a:Act} {w:World} {n:Nat} {l:SF} {M:Av}
theorem bc.skip{o:Oper}{w':World}{K:Value→World→Prop}(hr:(execOp a.eval o).run P w=.ok .skip w')(hd:o.dst=none)(hk:∀v,K v w'):bc P o a w K:=λQ N hN=>by
 unfold Oper.wp;rw[hr];have h1:=hN undef w' (hk undef);obtain⟨dst,op,ty,pos,after,guard⟩:=o;obtain rfl:dst=none:=hd;exact h1
theorem a4n{d:Option Tmp}{E:TypeId}{x:Operand}{v:Value}{ty:TypeId}{pos:String}{after:Array Edge}(cs:List Value)(H:ay D n l a)(hS:S0 M [] w)(hx:ev l [] x=some v)(hc:v.cells.toList=cs):
  bc P ⟨d,.box E x,ty,pos,after,none⟩ a w λu w'=>∃b:Nat,u=.pointer (some ⟨b,0,none⟩)∧SH M (aG []) w [.cq b cs] w':=by
 have hv:v.cells=⟨cs⟩:=by rw[←hc]
 have hN:=yF w cs E;refine bc.pa (v:=.pointer (some ⟨w.heap.size,0,none⟩)) (w':=w.alloc (.cells ⟨cs⟩ E)) ?_ ⟨w.heap.size,rfl,SH.step hS hN.1 (by simp) (by simp[aG,aj.cq]) ?_⟩
 ·simp[execOp,H.ev (eZ a) hx,Instr.box,newVar,newRow,hv]
 ·intro e he;rw[List.mem_singleton]at he;subst he;exact hN.2
theorem nz{d:Option Tmp}{E:TypeId}{ty:TypeId}{pos:String}{after:Array Edge}(cs:List Value){z:Value}(hS:S0 M [] w)(hz:(P.info? E).map (·.zero)=some (some z))(hc:z.cells.toList=cs):
  bc P ⟨d,.alloc E,ty,pos,after,none⟩ a w λu w'=>∃b:Nat,u=.pointer (some ⟨b,0,none⟩)∧SH M (aG []) w [.cq b cs] w':=by
 have hv:z.cells=⟨cs⟩:=by rw[←hc]
 have hN:=yF w cs E;have yC:(zeroValue E).run P w=.ok z w:=by
  cases hi:P.info? E with
  |none=>simp[hi]at hz
  |some inf=>
   simp[hi]at hz;simp[zeroValue,typeInfo,hi,hz]
 refine bc.pa (v:=.pointer (some ⟨w.heap.size,0,none⟩)) (w':=w.alloc (.cells ⟨cs⟩ E)) ?_ ⟨w.heap.size,rfl,SH.step hS hN.1 (by simp) (by simp[aG,aj.cq]) ?_⟩
 ·simp[execOp,Instr.alloc,yC,newVar,newRow,hv]
 ·intro e he;rw[List.mem_singleton]at he;subst he;exact hN.2
theorem Pd{d:Option Tmp}{E:TypeId}{ty:TypeId}{pos:String}{after:Array Edge}(k:IntKind)(q:List Int){z:Value}(hS:S0 M [] w)(hz:(P.info? E).map (·.zero)=some (some z))(hc:z.cells.toList=q.map (Value.int k)):
  bc P ⟨d,.alloc E,ty,pos,after,none⟩ a w λu w'=>∃b:Nat,u=.pointer (some ⟨b,0,none⟩)∧SH M (aG []) w [.row k b q (V.ln q)] w':=by
 refine(nz (P:=P) (d:=d) (ty:=ty) (pos:=pos) (after:=after) (a:=a) (q.map (Value.int k)) hS hz hc).mono ?_;rintro v w' ⟨b,rfl,h⟩;refine⟨b,rfl,⟨h.kp,by simp,h.lo,h.nm,h.mx,?_⟩⟩;intro e he;rw[List.mem_singleton]at he;subst he;exact⟨dh.row q (h.bk 0 rfl),rfl⟩
theorem gn{t:TypeId}{x y:Operand}{ty:TypeId}{pos:String}{after:Array Edge}{b off:Nat}{v:Value}{cs:List Value}(sO:List Value)(H:ay D n l a)(hS:S0 M [.cq b cs] w)
  (hx:ev l [] x=some (.pointer (some ⟨b,off,none⟩)))(hy:ev l [] y=some v)
  (hz:(P.info? t).map (·.size)=some v.cells.toList.length)(h1:o8 v.cells.toList=true)(hl:Nat.ble (off+v.cells.toList.length) cs.length=true)(hs:iW cs off v.cells.toList=sO):
  bc P ⟨none,.store t x y,ty,pos,after,none⟩ a w λ_ w'=>SH M (aG [.cq b cs]) w [.cq b sO] w':=by
 obtain⟨w',h2,h3,h4⟩:=VZ (P:=P) (off:=off) v.cells.toList 0 w cs h1 (hS.bk 0 rfl) (by simpa using hl);rw[Nat.add_zero,hs]at h4;have gk:(sizeOf t).run P w=.ok v.cells.size w:=ke (by simpa using hz);refine bc.skip (w':=w') ?_ rfl λ_=>SH.step hS (h3.wide (by simp[aG,aj.cq])) (by simp) (by simp[aG,aj.cq]) ?_
 ·simp[execOp,H.ev (eZ a) hx,H.ev (eZ a) hy,Instr.storeAt,Instr.sureAddr,storeVar,gk,h2]
 ·intro e he;rw[List.mem_singleton]at he;subst he;exact h4
theorem yK{t:TypeId}{x y:Operand}{ty:TypeId}{pos:String}{after:Array Edge}{k:IntKind}{b:Nat}{ix v m:Int}{r:List Int}(H:ay D n l a)(hS:S0 M [.row k b r m] w)
  (hx:ev l [] x=some (.pointer (some ⟨b,0+ix.toNat*1,none⟩)))(hy:ev l [] y=some (.int k v))(hz:(P.info? t).map (·.size)=some 1)(h0:0≤ix∧ix<m):
  bc P ⟨none,.store t x y,ty,pos,after,none⟩ a w λ_ w'=>SH M (aG [.row k b r m]) w [.row k b (aW r ix v) m] w':=by
 obtain⟨hr,hm⟩:=hS.rw 0 rfl;obtain⟨w',h2,h3,h4⟩:=a47 (P:=P) (v:=v) hr hz h0.1 (by rw[hm];exact h0.2);refine bc.skip (w':=w') ?_ rfl λ_=>SH.step hS (h3.wide (by simp[aG,aj.row])) (by simp) (by simp[aG,aj.row]) ?_
 ·simp only[execOp,H.ev (eZ a) hx,H.ev (eZ a) hy,Sem.run_bind,h2,Result.andThen_ok,Sem.run_pure]
 ·intro e he;rw[List.mem_singleton]at he;subst he;exact⟨h4,by rw[a45];exact hm⟩
def mz(k:IntKind)(q:List Int)(n:Nat):List Value:=(List.range n).map λ(i:Nat)=>.int k (gi q (i:Int))
theorem Rw.Pe{k:IntKind}{w:World}{b:Nat}{q:List Int}{m:Int}(h:Rw k w b q∧V.ln q=m){n:Nat}(hn:(n:Int)=m):V.cG b 0 (mz k q n) 0 w:=by
 refine Gr _ 0 λi hi=>?_;have kC:i<n:=by simpa[mz]using hi
 have:=h.1.aQ (i:=(i:Int)) (by omega) (by rw[h.2,←hn];omega);simp only[Int.toNat_natCast,Nat.mul_one,Nat.zero_add]at this;simp only[mz,List.getElem_map,List.getElem_range,Nat.zero_add];exact this
theorem Rw.ph{i m:Int}{k:IntKind}{w:World}{b:Nat}{q:List Int}(h:Rw k w b q∧V.ln q=m)(hi:0≤i∧i<m):V.aQ ⟨b,0+i.toNat*1,none⟩ (.int k (gi q i)) w:=h.1.aQ hi.1 (by rw[h.2];exact hi.2)
def bi{α:Type}(T:Ty α)(M:Av)(w:World):List α→List (Nat→Gh)→Prop
 |[],_=>True
 |x::r,gs=>T.dW M w x (gs.headD λ_=>.nil)∧bi T M w r gs.tail
theorem bi.nil{α:Type}{T:Ty α}{M:Av}{w:World}{gs:List (Nat→Gh)}:bi T M w [] gs:=trivial
theorem bi.cons{α:Type}{T:Ty α}{M:Av}{w:World}{x:α}{r:List α}{g:Nat→Gh}{gs:List (Nat→Gh)}(h:T.dW M w x g)(k:bi T M w r gs):bi T M w (x::r) (g::gs):=⟨h,k⟩
theorem bi.get{α:Type}{T:Ty α}{M:Av}{w:World}:∀{xs:List α}{gs:List (Nat→Gh)},bi T M w xs gs→∀i (h:i<xs.length),T.dW M w xs[i] (sL gs i)
 |x::r,gs,h,0,_=>by
  have:=h.1;cases gs with
  |nil=>simpa[sL]using this
  |cons g q=>simpa[sL]using this
 |x::r,gs,h,i+1,hi=>by
  have:=bi.get h.2 i (by simpa using hi);cases gs with
  |nil=>simpa[sL]using this
  |cons g q=>simpa[sL]using this
theorem Pf{α:Type}{T:Ty α}{d:Nat}{t E:TypeId}{len:Nat}{zv:Value}{parts:Array (Nat×Operand)}{ty:TypeId}{pos:String}{after:Array Edge}{L:List aj}(cs:List Value)(xs:List α)(gs:List (Nat→Gh))
  (vs:List Value)(H:ay D n l a)(hS:S0 M L w)(he:lq l [] (parts.toList.map (·.2))=some vs)
  (hu:P.underlying t=some (.slice E))(hz:(P.info? E).map (·.size)=some T.z)(p8:(P.info? E).map (·.zero)=some (some zv))(hlen:Nat.ble (len*T.z) 16777216=true)(lx:Nat.blt 0 (len*T.z)=true)
  (hf:Instr.fill (λi=>some (i*T.z,T.z)) ((Array.range (len*T.z)).map (zv.cells[· %zv.cells.size]!)) ((parts.toList.map (·.1)).zip vs)=some ⟨cs⟩)(Dw:((dC xs (sL gs) 0).map (ic T)).flatten=cs)(pb:xs.length=len)
  (fX:bi T (eu M L) w xs gs):
  bc P ⟨some d,.buildSlice t len parts,ty,pos,after,none⟩ a w λv w'=>∃g:Gh,v=.slice g.a len g.c∧SH M (aG L) w [.own E T xs g] w':=by
 refine(a4e (P:=P) (z:=T.z) (enc:=ic T) (a:=a) (w:=w) (ty:=ty) (pos:=pos) (after:=after) (d:=d) (λp=>T.len p.1 p.2) cs (dC xs (sL gs) 0) vs H he hu hz p8 hlen lx hf Dw (by rw[er];exact pb)).mono ?_;rintro v w' ⟨a1,rfl,hk,ha,ho⟩;have lo:∀b∈aG [aj.own E T xs (.mk a1 len (sL gs))],w.heap.size≤b∨b∈aG L:=by
  intro b hb;simp only[aG,aj.own,Gh.a,ha,List.append_nil,List.mem_singleton]at hb;exact .inl (by omega)
 have oc:Kp (aG L) w w':=hk.wide (by simp);refine⟨.mk a1 len (sL gs),rfl,SH.step hS oc (by simp) lo ?_⟩;intro e he;rw[List.mem_singleton]at he;subst he;exact⟨ho,λi hi=>T.step hS oc lo (fX.get i hi)⟩
theorem a4o{α:Type}{T:Ty α}{d:Nat}{t E:TypeId}{ty:TypeId}{pos:String}{after:Array Edge}(hS:S0 M [] w)(hu:P.underlying t=some (.slice E))(hz:(P.info? E).map (·.size)=some T.z):
  bc P ⟨some d,.buildSlice t 0 #[],ty,pos,after,none⟩ a w λv w'=>∃g:Gh,v=.slice g.a 0 g.c∧SH M (aG []) w [.own E T ([]:List α) g] w':=by
 have hs:(sizeOf E).run P w=.ok T.z w:=ke hz;have hN:=yF w [] E;have hr:(Instr.buildSlice t 0 #[]).run P w=.ok (.slice (some ⟨w.heap.size,0,none⟩) 0 0) (w.alloc (.cells ⟨[]⟩ E)):=by
  have h0:Array.map (λ_=>(default:Value)) (Array.range 0)=(⟨[]⟩:Array Value):=by simp
  simp only[Instr.buildSlice,Sem.run_bind,run_underlying hu,Result.andThen_ok,hs];simp[Instr.fill,newRow,h0]
 refine bc.pa (v:=.slice (some ⟨w.heap.size,0,none⟩) 0 0) (w':=w.alloc (.cells ⟨[]⟩ E)) (by simp[execOp,hr]) ⟨.mk (some ⟨w.heap.size,0,none⟩) 0 (λ_ _=>.nil),rfl,SH.step hS hN.1 (by simp) (by simp[aG,aj.own,Gh.a,cR]) ?_⟩;intro e he;rw[List.mem_singleton]at he;subst he;refine⟨?_,λi hi=>by simp at hi⟩;exact Ow.W7 (λ(p:α×(Nat→Gh))=>T.len p.1 p.2) (l:=[]) (by simp) (by show(w.heap.push _)[w.heap.size]?=_;simp)
theorem Pg{α:Type}{T:Ty α}{d:Nat}{s x:Operand}{t ty e:TypeId}{pos:String}{after:Array Edge}{zv:Value}{g1:Gh}{n1 n2 c1 c2:Nat}{a1 a2:Option Addr}{l1 l2:List α}{s2:Nat→Nat→Gh}(q:List α)(hq:l1++l2=q)(H:ay D n l a)
  (hs:ev l [] s=some (.slice a1 n1 c1))(hx:ev l [] x=some (.slice a2 n2 c2))(lY:g1.a=a1)(iZ:g1.c=c1)(jD:l1.length=n1)(kD:l2.length=n2)
  (hu:P.underlying t=some (.slice e))(hi:(P.info? e).map (λi=>(i.size,Nat.ble i.bytes 128,i.zero))=some (T.z,true,some zv))(o9:zv.cells.size=T.z)(hz:Nat.blt 0 T.z=true)
  (how:Ow e (ic T) T.z w g1.a g1.c (dC l1 g1.s 0))(iX:Sl (ic T) T.z w a2 (dC l2 s2 0))(hl:V.ln l1+V.ln l2≤1099511627776):
  bc P ⟨some d,.call ⟨.builtin .append,#[s,x],#[t,t]⟩,ty,pos,after,none⟩ a w λv w'=>∃g:Gh,v=.slice g.a q.length g.c∧Kp (cR g1.a) w w'∧(g.a=g1.a∨cR g.a=[w.heap.size])∧Ow e (ic T) T.z w' g.a g.c (dC q g.s 0)∧g.s=wD l1.length g1.s s2:=by
 subst hq lY iZ;refine(a4f (P:=P) (enc:=ic T) (z:=T.z) (d:=d) (ty:=ty) (pos:=pos) (after:=after) (λp=>T.len p.1 p.2) (λp=>T.one p.1 p.2) (dC l1 g1.s 0++dC l2 s2 0) rfl H hs hx (by rw[er];exact jD) (by rw[er];exact kD) hu hi o9 hz how iX (by unfold V.ln at hl⊢;rw[er,er];exact hl)).mono ?_;rintro v w' ⟨ar,cr,rfl,hk,iY,ho⟩;refine⟨.mk ar cr (wD l1.length g1.s s2),?_,hk,iY,?_,rfl⟩
 ·simp[Gh.a,Gh.c,er]
 ·show Ow e (ic T) T.z w' ar cr (dC (l1++l2) (wD l1.length g1.s s2) 0);rw[a4i];exact ho
theorem Wh{α:Type}{T:Ty α}{M:Av}{w:World}{l1 l2:List α}{s1 s2:Nat→Nat→Gh}(h1:∀i (h:i<l1.length),T.dW M w l1[i] (s1 i))(h2:∀i (h:i<l2.length),T.dW M w l2[i] (s2 i)):
  ∀i (h:i<(l1++l2).length),T.dW M w (l1++l2)[i] (wD l1.length s1 s2 i):=λi hi=>by
 by_cases hl:i<l1.length
 ·rw[List.getElem_append_left hl];simp only[wD,hl,if_true];exact h1 i hl
 ·rw[List.getElem_append_right (by omega)];simp only[wD,hl,if_false];exact h2 _ _
theorem Ph{α:Type}{T:Ty α}{d:Nat}{s x:Operand}{t ty e:TypeId}{pos:String}{after:Array Edge}{zv:Value}{g1 g2:Gh}{n1 n2 c1 c2:Nat}{a1 a2:Option Addr}{l1 l2:List α}(q:List α)(hq:l1++l2=q)(H:ay D n l a)(hS:S0 M [.own e T l1 g1,.im T l2 g2] w)
  (hs:ev l [] s=some (.slice a1 n1 c1))(hx:ev l [] x=some (.slice a2 n2 c2))(lY:g1.a=a1)(iZ:g1.c=c1)(uq:g2.a=a2)(jD:l1.length=n1)(kD:l2.length=n2)
  (hu:P.underlying t=some (.slice e))(hi:(P.info? e).map (λi=>(i.size,Nat.ble i.bytes 128,i.zero))=some (T.z,true,some zv))(o9:zv.cells.size=T.z)(hz:Nat.blt 0 T.z=true)
  (hl:V.ln l1+V.ln l2≤1099511627776):
  bc P ⟨some d,.call ⟨.builtin .append,#[s,x],#[t,t]⟩,ty,pos,after,none⟩ a w λv w'=>∃g:Gh,v=.slice g.a q.length g.c∧SH M (aG [.own e T l1 g1,.im T l2 g2]) w [.own e T q g] w':=by
 subst uq;have ho:=hS.ow 0 rfl;have hm:=hS.im 1 rfl;refine(Pg (P:=P) (d:=d) (ty:=ty) (pos:=pos) (after:=after) (g1:=g1) (s2:=g2.s) (l1:=l1) (l2:=l2) q hq H hs hx lY iZ jD kD hu hi o9 hz ho.ow hm.zip hl).mono ?_;rintro v w' ⟨g,rfl,hk,iY,how,yI⟩;have oc:Kp (aG [.own e T l1 g1,.im T l2 g2]) w w':=hk.wide (by intro b hb;simp only[aG,aj.own,List.mem_append];exact .inl hb);have lo:∀b∈aG [aj.own e T q g],w.heap.size≤b∨b∈aG [.own e T l1 g1,.im T l2 g2]:=by
  intro b hb;simp only[aG,aj.own,List.append_nil]at hb;rcases iY with h|h
  ·exact .inr (by simp only[aG,aj.own,List.mem_append];exact .inl (h▸hb))
  ·rw[h]at hb;simp at hb;exact .inl (by omega)
 refine⟨g,rfl,SH.step hS oc (by simp) lo ?_⟩;intro f hf;rw[List.mem_singleton]at hf;subst hf;refine⟨how,?_⟩;subst hq;rw[yI];exact Wh (λi hi=>T.step hS oc lo (ho.dW i hi)) (λi hi=>T.step hS oc lo (hm.2 i hi))
theorem AH{α:Type}{T:Ty α}{d:Nat}{s x:Operand}{t ty e e2:TypeId}{pos:String}{after:Array Edge}{zv:Value}{g1 g2:Gh}{n1 n2 c1 c2:Nat}{a1 a2:Option Addr}{l1 l2:List α}(q:List α)(hq:l1++l2=q)(H:ay D n l a)(hS:S0 M [.own e T l1 g1,.own e2 T l2 g2] w)
  (hs:ev l [] s=some (.slice a1 n1 c1))(hx:ev l [] x=some (.slice a2 n2 c2))(lY:g1.a=a1)(iZ:g1.c=c1)(uq:g2.a=a2)(jD:l1.length=n1)(kD:l2.length=n2)
  (hu:P.underlying t=some (.slice e))(hi:(P.info? e).map (λi=>(i.size,Nat.ble i.bytes 128,i.zero))=some (T.z,true,some zv))(o9:zv.cells.size=T.z)(hz:Nat.blt 0 T.z=true)
  (hl:V.ln l1+V.ln l2≤1099511627776):
  bc P ⟨some d,.call ⟨.builtin .append,#[s,x],#[t,t]⟩,ty,pos,after,none⟩ a w λv w'=>∃g:Gh,v=.slice g.a q.length g.c∧SH M (aG [.own e T l1 g1,.own e2 T l2 g2]) w [.own e T q g,.own e2 T l2 g2] w':=by
 subst uq;have ho:=hS.ow 0 rfl;have hm:=hS.ow 1 rfl;have hd:Dj (cR g1.a) (cR g2.a):=by
  have:=hS.nd;rw[List.pairwise_cons]at this;exact this.1 (.own e2 T l2 g2) (by simp)
 refine(Pg (P:=P) (d:=d) (ty:=ty) (pos:=pos) (after:=after) (g1:=g1) (s2:=g2.s) (l1:=l1) (l2:=l2) q hq H hs hx lY iZ jD kD hu hi o9 hz ho.ow hm.Gq.zip hl).mono ?_;rintro v w' ⟨g,rfl,hk,iY,how,yI⟩;have oc:Kp (aG [.own e T l1 g1,.own e2 T l2 g2]) w w':=hk.wide (by intro b hb;simp only[aG,aj.own,List.mem_append];exact .inl hb);have lo:∀b∈aG [aj.own e T q g,.own e2 T l2 g2],w.heap.size≤b∨b∈aG [.own e T l1 g1,.own e2 T l2 g2]:=by
  intro b hb;simp only[aG,aj.own,List.append_nil,List.mem_append]at hb;rcases hb with hb|hb
  ·rcases iY with h|h
   ·exact .inr (by simp only[aG,aj.own,List.mem_append];exact .inl (h▸hb))
   ·rw[h]at hb;simp at hb;exact .inl (by omega)
  ·exact .inr (by simp only[aG,aj.own,List.mem_append];exact .inr (.inl hb))
 refine⟨g,rfl,SH.step hS oc ?_ lo ?_⟩
 ·rw[List.pairwise_cons];refine⟨λf hf=>?_,by simp⟩;rw[List.mem_singleton]at hf;subst hf;intro y hy gm;rcases iY with h|h
  ·exact hd y (h▸hy) gm
  ·have wA:y∈cR g.a:=hy;rw[h]at wA;simp at wA;have:=hm.ow.lt y gm;omega
 ·intro f hf;rcases List.mem_cons.1 hf with rfl|hf
  ·refine⟨how,?_⟩;subst hq;rw[yI];exact Wh (λi hi=>T.step hS oc lo (ho.dW i hi)) (λi hi=>T.step hS oc lo (hm.dW i hi))
  ·rw[List.mem_singleton]at hf;subst hf;exact⟨hm.ow.kp hk (λb hb yJ=>hd b yJ hb),λi hi=>T.step hS oc lo (hm.dW i hi)⟩
end
def dD{α:Type}(l:List α)(i j:Int):List α:=(l.drop i.toNat).take (j.toNat-i.toNat)
theorem wF{α:Type}(l:List α){i j:Int}(h:0≤i∧i≤j∧j≤ln l):(dD l i j).length=j.toNat-i.toNat:=by
 unfold ln at h;simp only[dD,List.length_take,List.length_drop];omega
section
variable {P:Program} {a:Act} {w:World} {n:Nat} {l:SF} {M:Av}
theorem cI.sub{α:Type}{T:Ty α}{q:List α}{g:Gh}(hs:cI T M w q g){i j:Int}(cY:0≤i∧i≤j∧j≤ln q):
  cI T M w (dD q i j) (.mk (if g.c=i.toNat then g.a else g.a.map (·.add (i.toNat*T.z))) (g.c-i.toNat) (λk=>g.s (i.toNat+k))):=by
 have hj:j.toNat≤q.length:=by unfold ln at cY;omega
 have hc:=hs.1.cp;rcases Nat.eq_zero_or_pos (dD q i j).length with h0|h0
 ·have:=List.eq_nil_of_length_eq_zero h0;rw[this];exact cI.nil
 ·rw[wF q cY]at h0;have hl:0<q.length:=by omega
  have bQ:=hs.1.ok hl;unfold cK at bQ;have cQ:¬g.c=i.toNat:=by omega
  have ea:(if g.c=i.toNat then g.a else g.a.map (·.add (i.toNat*T.z)))=some ⟨ab g.a,ao g.a+i.toNat*T.z,none⟩:=by
   rw[if_neg cQ,bQ];simp[Addr.add_zero',ab,ao]
  rw[ea];refine⟨⟨λ_=>rfl,λ_=>hs.1.lt hl,λ_=>hs.1.av hl,λk hk m v hv=>?_,?_⟩,λk hk=>?_⟩
  ·rw[wF q cY]at hk;have dq:i.toNat+k<q.length:=by omega
   have hg:(dD q i j)[k]'(by rw[wF q cY];exact hk)=q[i.toNat+k]:=by simp[dD]
   rw[hg]at hv;have:=hs.1.get (i.toNat+k) dq m v hv;show w.cell? ⟨ab g.a,ao g.a+i.toNat*T.z+k*T.z+m,none⟩=some v;rw[Nat.add_mul,←Nat.add_assoc]at this;exact this
  ·rw[wF q cY];show j.toNat-i.toNat≤g.c-i.toNat;omega
  ·rw[wF q cY]at hk;have dq:i.toNat+k<q.length:=by omega
   have hg:(dD q i j)[k]'(by rw[wF q cY];exact hk)=q[i.toNat+k]:=by simp[dD]
   rw[hg];exact hs.2 _ dq
theorem rq{α:Type}{T:Ty α}{d:Nat}{t E ty:TypeId}{x:Operand}{lo hi:Option Operand}{pos:String}{after:Array Edge}{g:Gh}{q:List α}{n0 c0:Nat}{a0:Option Addr}{L:List aj}(i j:Int)(p5 kC:Option Value)(H:ay D n l a)(hS:S0 M L w)(hs:cI T (eu M L) w q g)
  (hx:ev l [] x=some (.slice a0 n0 c0))(ha:g.a=a0)(hc:g.c=c0)(hn:q.length=n0)(yz:rl l [] lo=some p5)(Gk:rl l [] hi=some kC)
  (h1:(p5=none∧i=0)∨∃k,p5=some (.int k i))(h2:(kC=none∧j=ln q)∨∃k,kC=some (.int k j))
  (hu:P.underlying t=some (.slice E))(hz:(P.info? E).map (·.size)=some T.z)(cY:0≤i∧i≤j∧j≤ln q):
  bc P ⟨some d,.slice t x lo hi none,ty,pos,after,none⟩ a w λv w'=>∃g':Gh,v=.slice g'.a (dD q i j).length g'.c∧SH M (aG L) w (.im T (dD q i j) g'::L) w':=by
 subst ha hc hn;have Wi:∀(y:Option Operand) v,rl l [] y=some v→y.map a.eval=v:=by
  intro y v hy;cases y with
  |none=>simp only[rl,Option.some.injEq]at hy;subst hy;rfl
  |some z=>
   simp only[rl]at hy;split at hy
   ·rename_i u hu;simp only[Option.some.injEq]at hy;subst hy;simp[H.ev (eZ a) hu]
   ·cases hy
 have hj:j.toNat≤q.length:=by unfold ln at cY;omega
 have Gz:=hs.1.cp;have gk:(sizeOf E).run P w=.ok T.z w:=ke hz;refine bc.pa (v:=.slice (if g.c=i.toNat then g.a else g.a.map (·.add (i.toNat*T.z))) (j.toNat-i.toNat) (g.c-i.toNat)) (w':=w) ?_ ⟨.mk (if g.c=i.toNat then g.a else g.a.map (·.add (i.toNat*T.z))) (g.c-i.toNat) (λk=>g.s (i.toNat+k)),?_,hS.rp (hs.sub cY)⟩
 ·have hb:(Instr.sliceBounds true q.length g.c p5 kC none).run P w=.ok (i.toNat,j.toNat,g.c) w:=by
   have q1:i.toNat≤j.toNat:=by omega
   have q2:j.toNat≤g.c:=by omega
   have q0:=cY.1;have q5:(j:Int)≤(g.c:Int):=by omega
   have q6:0≤j:=by omega
   have q7:=cY.2.1;rcases h2 with⟨rfl,rfl⟩|⟨k',rfl⟩<;>rcases h1 with⟨rfl,rfl⟩|⟨k,rfl⟩
   ·simp[Instr.sliceBounds,ln]
   ·have:i≤(q.length:Int):=cY.2.1;simp[Instr.sliceBounds,Instr.sliceBound,asIntOf,cY.1,this,ln]
   ·simp[Instr.sliceBounds,Instr.sliceBound,asIntOf,q5,q6]
   ·have q8:i≤max j 0:=by omega
    simp[Instr.sliceBounds,Instr.sliceBound,asIntOf,q5,q6,q0,q8]
  simp only[execOp,H.ev (eZ a) hx,Instr.sliceAt,Sem.run_bind,run_underlying hu,Result.andThen_ok,Wi _ _ yz,Wi _ _ Gk,Option.map_none,Instr.slice,hb,gk,Sem.run_pure]
 ·rw[wF q cY];rfl
end
theorem nB{P:Program}{w:World}{s t E:TypeId}{l:List Int}{g:Gh}{M:Av}(hs:P.underlying s=some (.slice E))(ht:P.underlying t=some .string)(hE:P.underlying E=some (.int .u8))(h:cI (tI .u8) M w l g):
  ∀w',Below w.heap.size w w'→(convert s t (.slice g.a l.length g.c)).run P w'=.ok (.string ⟨⟨bD l⟩⟩) w':=
 P0 hs ht hE ⟨h.1.ok,h.1.lt,λi hi j v hv=>h.1.get i hi j v hv⟩
section
variable {P:Program} {a:Act} {w:World} {n:Nat} {l:SF} {M:Av}
theorem DA{d:Nat}{s t:TypeId}{E:TypeId}{x:Operand}{ty:TypeId}{pos:String}{after:Array Edge}{str:List UInt8}(H:ay D n l a)(hS:S0 M [] w)
  (hx:ev l [] x=some (.string ⟨⟨str⟩⟩))(hs:P.underlying s=some .string)(ht:P.underlying t=some (.slice E))(hE:P.underlying E=some (.int .u8)):
  bc P ⟨some d,.convert s t x,ty,pos,after,none⟩ a w λv w'=>∃(b c:Nat),v=.slice (some ⟨b,0,none⟩) (ax str).length c∧(ax str).length≤c∧SH M (aG []) w [.row .u8 b (ax str) (V.ln (ax str))] w':=by
 have gk:(ByteArray.mk ⟨str⟩).size=str.length:=rfl;have hq:∀n e,(Question.appendCap n 0 e).forced=false:=λ_ _=>rfl;obtain⟨cap,w1,lZ,Wj,a4p⟩:∃cap w1,(choose (.appendCap str.length 0 E)).run P w=.ok cap w1∧w1={w with drawn:=w.drawn+1}∧str.length≤cap:=⟨_,_,by rw[run_choose];simp[hq];rfl,rfl,Nat.le_add_right _ _⟩;have AJ:(ax str).length≤cap:=by simpa[ax]using a4p
 let cs:List Value:=(ax str).map (Value.int .u8)++List.replicate (cap-str.length) (.int .u8 0)
 let w2:World:=w1.alloc (.cells ⟨cs⟩ E)
 have hn:=yF w1 cs E;have iD:Below w.heap.size w w1:=by rw[Wj];exact⟨rfl,rfl,rfl,Nat.le_refl _,λ_ _=>rfl⟩
 have ajc:w1.heap.size=w.heap.size:=by rw[Wj]
 have lu:((ByteArray.mk ⟨str⟩).data.map λb=>Value.int .u8 (b.toNat:Int))++Array.replicate (cap-str.length) (.int .u8 0)=⟨cs⟩:=by
  apply Array.ext';simp[cs,ax,List.map_map,Function.comp_def]
 obtain⟨T,hT⟩:=hn.2.get;have Pj:w2.shape? w1.heap.size=some (T,cs.length):=by
  simp only[World.shape?,w2,hT];rfl
 let w3:World:=w2.freeze ⟨w1.heap.size,cs.length,none⟩ 1
 have yL:(convert s t (.string ⟨⟨str⟩⟩)).run P w=.ok (.slice (some ⟨w1.heap.size,0,none⟩) str.length cap) w3:=by
  simp only[convert,Sem.run_bind,run_underlying hs,run_underlying ht,run_underlying hE,Result.andThen_ok,Conv.stringToBytes,gk,lZ,lu];simp[newRow,markStringish,Pj,w3,w2]
 have GA:w3.heap[w1.heap.size]?=some (.cells ⟨cs⟩ T (cs.length,cs.length+1)):=by
  simp only[w3,World.freeze,Nat.one_ne_zero,if_false,Array.getElem?_modify,if_true,w2,hT];simp
 have KN:Kp [] w w3:=by
  refine⟨?_,?_,?_,?_,?_⟩
  ·exact(hn.1.os).trans iD.os
  ·exact(hn.1.tape).trans iD.tape
  ·exact(hn.1.output).trans iD.output
  ·have:=hn.1.size;simp only[w3,World.freeze,Nat.one_ne_zero,if_false,Array.size_modify,w2];omega
  ·intro q hq' _;have cQ:q≠w1.heap.size:=by omega
   simp only[w3,World.freeze,Nat.one_ne_zero,if_false,Array.getElem?_modify,if_neg (Ne.symm cQ),w2];exact(hn.1.block q (by omega) (by simp)).trans (iD.block q hq')
 have hlen:(ax str).length=str.length:=by simp[ax]
 refine bc.pa (v:=.slice (some ⟨w1.heap.size,0,none⟩) (ax str).length cap) (w':=w3) ?_ ⟨w1.heap.size,cap,rfl,AJ,SH.step hS KN (by simp) (by simp[aG,aj.row];omega) ?_⟩
 ·rw[hlen];simp[execOp,H.ev (eZ a) hx,yL]
 ·intro e he;rw[List.mem_singleton]at he;subst he;refine⟨⟨?_,T,_,_,GA,.inr ?_⟩,rfl⟩
  ·rcases Nat.lt_or_ge w1.heap.size w3.heap.size with h|h
   ·exact h
   ·rw[Array.getElem?_eq_none h]at GA;cases GA
  ·show(ax str).length≤cs.length;simp[cs]
end
theorem Wk{α:Type}(T:Ty α)(x:α)(g:Nat→Gh):∀(n i:Nat),(dC (List.replicate n x) (λ_=>g) i).map (ic T)=List.replicate n (T.enc x g)
 |0,_=>rfl
 |n+1,i=>by simp only[List.replicate_succ,dC,List.map_cons,Wk T x g n (i+1)];rfl
theorem Wl{l:List Value}{z:Nat}(hz:l.length=z)(h0:0<z):∀(n q:Nat),q<n*z→(List.replicate n l).flatten[q]?=l[q%z]?
 |0,q,h=>by omega
 |n+1,q,h=>by
  rw[List.replicate_succ,List.flatten_cons];by_cases hq:q<z
  ·rw[List.getElem?_append_left (by omega),Nat.mod_eq_of_lt hq]
  ·rw[List.getElem?_append_right (by omega),hz,Wl hz h0 n (q-z) (by rw[Nat.add_mul,Nat.one_mul]at h;omega),←Nat.mod_eq_sub_mod (by omega)]
theorem a4q{zc:Array Value}{z n c:Nat}(hz:zc.size=z)(h0:0<z)(hn:n≤c):(madeCells zc (c*z)).toList.take (n*z)=(List.replicate n zc.toList).flatten:=by
 have hl:(List.replicate n zc.toList).flatten.length=n*z:=by simp[hz]
 apply List.ext_getElem?;intro q;by_cases hq:q<n*z
 ·rw[Wl (by simpa using hz) h0 n q hq,List.getElem?_take_of_lt hq];have hqc:q<c*z:=Nat.lt_of_lt_of_le hq (Nat.mul_le_mul_right z hn);have hm:q%z<zc.size:=by rw[hz];exact Nat.mod_lt _ h0
  simp only[madeCells,Array.toList_map,Array.toList_range,List.getElem?_map,List.getElem?_range,hqc,Option.map_some,hz];rw[Array.getElem?_toList,getElem!_pos zc (q%z) hm,Array.getElem?_eq_getElem hm]
 ·rw[List.getElem?_eq_none (by simp;omega),List.getElem?_eq_none (by omega)]
section
variable {P:Program} {a:Act} {w:World} {n:Nat} {l:SF} {M:Av}
theorem Wm{α:Type}{T:Ty α}{d:Nat}{t E:TypeId}{lo co:Operand}{zv:Value}{ty:TypeId}{pos:String}{after:Array Edge}{kl kc:IntKind}{len cap:Int}(x0:α)(H:ay D n l a)(hS:S0 M [] w)
  (hl:ev l [] lo=some (.int kl len))(hc:ev l [] co=some (.int kc cap))(hu:P.underlying t=some (.slice E))(hi:(P.info? E).map (λi=>(i.size,Nat.ble i.bytes 128,i.zero))=some (T.z,true,some zv))
  (hz:Nat.blt 0 T.z=true)(p8:T.enc x0 (λ_=>.nil)=zv.cells.toList)(fX:∀M w,T.dW M w x0 (λ_=>.nil))(hb:0≤len∧len≤cap∧cap≤1099511627776):
  bc P ⟨some d,.makeSlice t lo co,ty,pos,after,none⟩ a w λv w'=>∃g:Gh,v=.slice g.a (List.replicate len.toNat x0).length g.c∧SH M (aG []) w [.own E T (List.replicate len.toNat x0) g] w':=by
 have Gs:0<T.z:=by simpa[Nat.blt,Nat.lt_iff_add_one_le]using hz
 cases fO:P.info? E with
 |none=>simp[fO]at hi
 |some inf=>
  simp only[fO,Option.map_some,Option.some.injEq,Prod.mk.injEq]at hi;obtain⟨h1,h2,h3⟩:=hi;have h2:inf.bytes≤128:=by simpa using h2
  have AK:(inf.bytes:Int)*cap≤281474976710656:=by
   have:(inf.bytes:Int)*cap≤128*1099511627776:=Int.mul_le_mul (by omega) hb.2.2 (by omega) (by omega);omega
  have hr:=run_make (P:=P) w t E inf zv hu fO h3 kl kc len cap hb.1 hb.2.1 AK (by omega);have o9:zv.cells.size=T.z:=by
   have:=T.len x0 (λ_=>.nil);rw[p8]at this;simpa using this
  have hN:=yF w (madeCells zv.cells (cap.toNat*inf.size)).toList E;have Pl:w.alloc (.cells (madeCells zv.cells (cap.toNat*inf.size)) E)=w.alloc (.cells ⟨(madeCells zv.cells (cap.toNat*inf.size)).toList⟩ E):=rfl;rw[Pl]at hr;refine bc.pa (v:=.slice (some ⟨w.heap.size,0,none⟩) len.toNat cap.toNat) (w':=w.alloc (.cells ⟨(madeCells zv.cells (cap.toNat*inf.size)).toList⟩ E)) ?_ ⟨.mk (some ⟨w.heap.size,0,none⟩) cap.toNat (λ_ _=>.nil),?_,SH.step hS hN.1 (by simp) (by simp[aG,aj.own,Gh.a,cR]) ?_⟩
  ·simp[execOp,H.ev (eZ a) hl,H.ev (eZ a) hc,hr]
  ·simp[Gh.a,Gh.c]
  ·intro e he;rw[List.mem_singleton]at he;subst he;refine⟨⟨⟨?_,.inr ⟨w.heap.size,cap.toNat,madeCells zv.cells (cap.toNat*inf.size),?_,Nat.zero_le _,?_,?_,?_,?_,?_⟩⟩,?_,?_⟩,λi hi=>?_⟩
   ·rw[yG (enc:=ic T) (λp=>T.len p.1 p.2),er]
   ·simp[er,Gh.a,Gh.c]
   ·show(w.heap.push _)[w.heap.size]?=_;simp
   ·rw[er];simp;omega
   ·unfold maxLen;omega
   ·simp[madeCells,h1]
   ·rw[er,List.length_replicate,h1];have e:(dC (List.replicate len.toNat x0) (Gh.mk (some ⟨w.heap.size,0,none⟩) cap.toNat (λ_ _=>.nil)).s 0).map (ic T)=List.replicate len.toNat zv.cells.toList:=by
     rw[show(Gh.mk (some ⟨w.heap.size,0,none⟩) cap.toNat (λ_ _=>.nil)).s=λ_=>(λ_=>Gh.nil)from rfl,Wk,p8]
    rw[e];exact a4q o9 Gs (by omega)
   ·intro y hy;simp only[Gh.a,cR,List.mem_singleton]at hy;subst hy;exact hN.2.lt
   ·rw[er];simp;omega
   ·rw[List.getElem_replicate];exact fX _ _
end
theorem Wn{P:Program}{b off:Nat}{T:TypeId}:∀(vs:List Value)(j:Nat)(w:World)(cs:List Value),o8 vs=true→w.heap[b]?=some (.cells ⟨cs⟩ T (0,0))→off+j+vs.length≤cs.length→
  ∃w',(storeCells ⟨b,off,none⟩ vs j).run P w=.ok () w'∧Kp [b] w w'∧w'.heap[b]?=some (.cells ⟨iW cs (off+j) vs⟩ T (0,0))
 |[],j,w,cs,_,hb,_=>⟨w,by simp[storeCells],Kp.refl _ _,by simpa[iW]using hb⟩
 |v::r,j,w,cs,ho,hT,hl=>by
  simp only[o8,Bool.and_eq_true]at ho;have hj:off+j<cs.length:=by simp at hl;omega
  have hc:w.cell? ⟨b,off+j,none⟩=some cs[off+j]:=by
   simp only[World.cell?,hT,Option.isSome_none,Bool.false_eq_true,if_false,List.getElem?_toArray];exact List.getElem?_eq_getElem hj
  have hf:w.frozen? ⟨b,off+j,none⟩=false:=by simp[World.frozen?,hT]
  have jE:(store ⟨b,off+j,none⟩ v).run P w=.ok () (w.setCell ⟨b,off+j,none⟩ v):=by
   rw[run_store P w _ v .plain ho.1,hc];simp[hf]
  obtain⟨w',h1,h2,h3⟩:=Wn (P:=P) (off:=off) r (j+1) _ _ ho.2 (Az (off:=off+j) (v:=v) hT) (by simp only[List.length_cons]at hl;simp only[List.length_set];omega);refine⟨w',?_,(qc w ⟨b,off+j,none⟩ v).trans h2 (by simp),h3⟩;simp only[storeCells,Sem.run_bind,Addr.add_zero',jE,Result.andThen_ok];exact h1
def cy{α:Type}(l:List α)(i:Int)(x:α):List α:=l.set i.toNat x
theorem rr{α:Type}(l:List α)(i:Int)(x:α):(cy l i x).length=l.length:=by simp[cy]
theorem Po:∀(vs p q:List Value)(off:Nat),iW (p++q) (p.length+off) vs=p++iW q off vs
 |[],_,_,_=>rfl
 |v::r,p,q,off=>by
  simp only[iW];rw[List.set_append_right _ _ (by omega),Nat.add_sub_cancel_left,Nat.add_assoc];exact Po r p _ (off+1)
theorem Pp:∀(vs q r:List Value)(off:Nat),off+vs.length≤q.length→iW (q++r) off vs=iW q off vs++r
 |[],_,_,_,_=>rfl
 |v::t,q,r,off,h=>by
  simp only[List.length_cons]at h;simp only[iW];rw[List.set_append_left _ _ (by omega)];exact Pp t _ r (off+1) (by simp;omega)
theorem Wo:∀(vs cs:List Value)(off:Nat),(iW cs off vs).length=cs.length
 |[],_,_=>rfl
 |v::r,cs,off=>by simp only[iW];rw[Wo r];simp
theorem Wp:∀(vs cs:List Value)(off k:Nat),off+vs.length≤k→(iW cs off vs).take k=iW (cs.take k) off vs
 |[],_,_,_,_=>rfl
 |v::r,cs,off,k,h=>by
  simp only[List.length_cons]at h;simp only[iW];rw[Wp r _ (off+1) k (by omega),List.take_set]
theorem a4r{α:Type}{T:Ty α}{l:List α}{s:Nat→Nat→Gh}{x:α}{gx:Nat→Gh}{i off z:Nat}{vs:List Value}(hz:∀x g,(T.enc x g).length=z)(hi:i<l.length)(he:iW (T.enc l[i] (s i)) off vs=T.enc x gx)(hv:off+vs.length≤z):
  iW ((dC l s 0).map (ic T)).flatten (i*z+off) vs=((dC (l.set i x) (λk=>if k=i then gx else s k) 0).map (ic T)).flatten:=by
 have e1:l=l.take i++l[i]::l.drop (i+1):=by rw[List.getElem_cons_drop,List.take_append_drop]
 have e2:l.set i x=l.take i++x::l.drop (i+1):=List.set_eq_take_append_cons_drop ..▸by simp[hi]
 have aM:(l.take i).length=i:=by simp;omega
 rw[e2]
 conv=>lhs;rw[e1]
 rw[Gy,Gy];simp only[dC,aM,Nat.zero_add,List.map_append,List.map_cons,List.flatten_append,List.flatten_cons];have wG:((dC (l.take i) s 0).map (ic T)).flatten.length=i*z:=by
  rw[yG (enc:=ic T) (z:=z) (λp=>hz p.1 p.2),er,aM]
 rw[←wG,Po,Pp _ _ _ _ (by simp only[ic];rw[hz];exact hv)];have ea:dC (l.take i) (λk=>if k=i then gx else s k) 0=dC (l.take i) s 0:=KK _ _ _ _ λq hq=>by
  rw[aM]at hq;rw[Nat.zero_add,if_neg (by omega)]
 have eb:dC (l.drop (i+1)) (λk=>if k=i then gx else s k) (i+1)=dC (l.drop (i+1)) s (i+1):=KK _ _ _ _ λq _=>by rw[if_neg (by omega)]
 rw[ea,eb];simp only[ic,if_true];rw[he]
section
variable {P:Program} {a:Act} {w:World} {n:Nat} {l:SF} {M:Av}
theorem AL{α:Type}[Inhabited α]{T:Ty α}{t E ty:TypeId}{x y:Operand}{pos:String}{after:Array Edge}{g:Gh}{q:List α}{L:List aj}{ix:Int}{off bb oo:Nat}{v:Value}(x':α)(gx:Nat→Gh)(H:ay D n l a)(hS:S0 M (.own E T q g::L) w)
  (hx:ev l [] x=some (.pointer (some ⟨bb,oo,none⟩)))(hbb:ab g.a=bb)(qe:ao g.a+ix.toNat*T.z+off=oo)(hy:ev l [] y=some v)
  (hz:(P.info? t).map (·.size)=some v.cells.toList.length)(h1:o8 v.cells.toList=true)(hl:Nat.ble (off+v.cells.toList.length) T.z=true)(qf:0≤ix∧ix<ln q)
  (he:iW (T.enc (gi q ix) (g.s ix.toNat)) off v.cells.toList=T.enc x' gx)(fX:T.dW (eu M (.own E T q g::L)) w x' gx)(_hL:aG L=[]):
  bc P ⟨none,.store t x y,ty,pos,after,none⟩ a w λ_ w'=>∃s:Nat→Nat→Gh,SH M (aG (.own E T q g::L)) w [.own E T (cy q ix x') (.mk g.a g.c s)] w':=by
 subst hbb qe;have ho:=hS.ow 0 rfl;have hi:ix.toNat<q.length:=by unfold ln at qf;omega
 have hg:gi q ix=q[ix.toNat]:=by simp[gi,List.getD_eq_getElem?_getD,List.getElem?_eq_getElem hi]
 rw[hg]at he;have hlz:off+v.cells.toList.length≤T.z:=by simpa using hl
 rcases ho.ow.row.2 with⟨h0,DB⟩|⟨b,cap,fP,hv,_,hw,iZ,oe,Wq,Ws⟩
 ·rw[er]at DB;omega
 ·simp only[Value.slice.injEq]at hv;obtain⟨pj,_,Wu⟩:=hv;rw[er]at iZ Ws;have rn:ab g.a=b:=by rw[pj];rfl
  have hao:ao g.a=0:=by rw[pj];rfl
  have a4s:b<w.heap.size:=by
   rcases Nat.lt_or_ge b w.heap.size with hb|hb
   ·exact hb
   ·rw[Array.getElem?_eq_none hb]at hw;cases hw
  have hle:ix.toNat*T.z+off+v.cells.toList.length≤q.length*T.z:=by
   have:(ix.toNat+1)*T.z≤q.length*T.z:=Nat.mul_le_mul_right _ hi;rw[Nat.add_mul,Nat.one_mul]at this;omega
  have Wv:q.length*T.z≤fP.toList.length:=by
   have:q.length*T.z≤cap*T.z:=Nat.mul_le_mul_right _ iZ;simpa[Wq]using this
  obtain⟨w',h2,h3,Ww⟩:=Wn (P:=P) (off:=ix.toNat*T.z+off) v.cells.toList 0 w fP.toList h1 (by simpa using hw) (by omega);rw[Nat.add_zero]at Ww;have gk:(sizeOf t).run P w=.ok v.cells.size w:=ke (by simpa using hz);have um:Kp (aG (.own E T q g::L)) w w':=h3.wide (by intro y hy;simp only[List.mem_singleton]at hy;subst hy;simp only[aG,List.mem_append];left;simp only[aj.own,pj,cR,List.mem_singleton]);have lo:∀s,∀y∈aG [aj.own E T (cy q ix x') (.mk g.a g.c s)],w.heap.size≤y∨y∈aG (.own E T q g::L):=λs y hy=>.inr (by
   simp only[aG,List.append_nil]at hy;simp only[aG,List.mem_append];exact .inl hy)
  refine bc.skip (w':=w') ?_ rfl λ_=>⟨λk=>if k=ix.toNat then gx else g.s k,SH.step hS um (by simp) (lo _) ?_⟩
  ·rw[rn,hao,Nat.zero_add]at hx;simp[execOp,H.ev (eZ a) hx,H.ev (eZ a) hy,Instr.storeAt,Instr.sureAddr,storeVar,gk,h2]
  ·intro e DC;rw[List.mem_singleton]at DC;subst DC;have sM:=a4r (T:=T) (l:=q) (s:=g.s) (x:=x') (gx:=gx) (off:=off) (vs:=v.cells.toList) T.len hi he hlz;refine⟨⟨⟨?_,.inr ⟨b,cap,⟨iW fP.toList (ix.toNat*T.z+off) v.cells.toList⟩,?_,Nat.zero_le _,by simpa using Ww,?_,oe,?_,?_⟩⟩,?_,?_⟩,λk hk=>?_⟩
   ·rw[yG (enc:=ic T) (λp=>T.len p.1 p.2),er]
   ·show Value.slice g.a _ g.c=_;rw[pj,Wu]
   ·rw[er];simp[cy];exact iZ
   ·simp[Wo,Wq]
   ·rw[er];show(iW fP.toList _ _).take ((cy q ix x').length*T.z)=_;rw[rr,Wp _ _ _ _ hle,Ws,sM];rfl
   ·intro y hy;have:y∈cR g.a:=hy;rw[pj]at this;simp[cR]at this;subst this;exact Nat.lt_of_lt_of_le a4s h3.size
   ·rw[er,rr];have:=ho.ow.ln;rw[er]at this;exact this
   ·have dq:k<q.length:=by rw[rr]at hk;exact hk
    by_cases e:k=ix.toNat
    ·subst e;have e1:(cy q ix x')[ix.toNat]=x':=by simp[cy]
     show T.dW _ _ _ (if ix.toNat=ix.toNat then gx else g.s ix.toNat);rw[e1,if_pos rfl];exact T.step hS um (lo _) fX
    ·have e1:(cy q ix x')[k]=q[k]:=by simp[cy,List.getElem_set_ne (λh=>e h.symm)]
     show T.dW _ _ _ (if k=ix.toNat then gx else g.s k);rw[e1,if_neg e];exact T.step hS um (lo _) (ho.dW k dq)
end
section
variable {P:Program} {Q:Exit→Act→World→Prop} {a:Act} {w:World} {n:Nat} {l:SF} {all:List Oper}
theorem lA{i d:Nat}{o:Oper}{K:Value→World→Prop}(ks:List Nat)(lk:SF)(H:ay D n l a)(ho:all[i]?=some o)(hg:o.guard=none)(og:o.dst=some d)(hd:Nat.blt d n=true)(hs:bc P o a w K)
  (hk:∀v,aV (jC l d [] v) ks=some ((d,[],v)::lk))
  (hK:∀a' w' v,ay D n ((d,[],v)::lk) a'→K v w'→wpList P all.toArray Q (all.drop (i+1)) a' w'):wpList P all.toArray Q (all.drop i) a w:=
 W0 ho hg λN hN=>hs Q N λv w' hv=>by
  rw[og];exact hN _ _ (hK _ _ v ((ay.set (H:=H) hd).aV (hk v)) hv)
theorem nC{i:Nat}{o:Oper}{K:Value→World→Prop}(ks:List Nat)(lk:SF)(H:ay D n l a)(ho:all[i]?=some o)(hg:o.guard=none)(og:o.dst=none)(hs:bc P o a w K)
  (hk:aV l ks=some lk)
  (hK:∀a' w',ay D n lk a'→(∃v,K v w')→wpList P all.toArray Q (all.drop (i+1)) a' w'):wpList P all.toArray Q (all.drop i) a w:=
 W0 ho hg λN hN=>hs Q N λv w' hv=>by
  rw[og];exact hN _ _ (hK _ _ (H.aV hk) ⟨v,hv⟩)
end
def yM(l:SF):fw→Bool
 |[]=>true
 |p::r=>yM l r&&match dF l p.1 with
  |some (C,.bool b)=>o4 C r&&b==p.2
  |_=>false
theorem Pq{n:Nat}{l:SF}{a:Act}(H:ay D n l a):∀{C:fw},yM l C=true→iB a C
 |[],_=>eZ a
 |p::r,h=>by
  unfold yM at h;rw[Bool.and_eq_true]at h;have ih:=Pq H h.1;have h2:=h.2;split at h2
  ·rename_i C b he;rw[Bool.and_eq_true]at h2;have hv:=(H.2.2 _ (oZ he)).1 (Gd h2.1 ih);have hb:b=p.2:=by simpa using h2.2
   intro q hq;rcases List.mem_cons.1 hq with rfl|hq
   ·rw[←hb];exact hv
   ·exact ih q hq
  ·cases h2
theorem a4t{n:Nat}{l:SF}{a:Act}(H:ay D n l a):∀(k:Nat){C:fw},(match C.drop k with
  |p::r=>yM l r&&(match dF l p.1 with
   |some (C',.bool b)=>o4 C' r&&!(b==p.2)
   |_=>false)
  |[]=>false)=true→¬iB a C:=by
 intro k C h bQ;split at h
 ·rename_i p r hd;rw[Bool.and_eq_true]at h;have h2:=h.2;split at h2
  ·rename_i C' b he;rw[Bool.and_eq_true]at h2;have hv:=(H.2.2 _ (oZ he)).1 (Gd h2.1 (Pq H h.1));have hp:p∈C:=List.mem_of_mem_drop (hd▸List.mem_cons_self);have:=bQ p hp;dsimp only at hv;rw[hv]at this;simp only[Option.some.injEq,Value.bool.injEq]at this;rw[this]at h2;simp at h2
  ·cases h2
 ·cases h
def pn(l:SF):List (Nat×Nat)→Option SF
 |[]=>some []
 |(t,0)::r=>match dF l t,pn l r with
  |some ([],v),some l'=>some ((t,[],v)::l')
  |_,_=>none
 |(t,1)::r=>match dF l t,pn l r with
  |some (C,v),some l'=>cond (yM l C) (some ((t,[],v)::l')) none
  |_,_=>none
 |(t,k+2)::r=>match dF l t,pn l r with
  |some (C,_),some l'=>cond (match C.drop k with
   |p::r=>yM l r&&(match dF l p.1 with
    |some (C',.bool b)=>o4 C' r&&!(b==p.2)
    |_=>false)
   |[]=>false) (some ((t,[],undef)::l')) none
  |_,_=>none
theorem ay.pn{n:Nat}{l:SF}{a:Act}(H:ay D n l a):∀{ks:List (Nat×Nat)}{l':SF},V.pn l ks=some l'→ay D n l' a
 |[],l',h=>by simp[V.pn]at h;subst h;exact⟨H.1,H.2.1,by simp⟩
 |(t,0)::r,l',h=>by
  unfold V.pn at h;split at h
  ·rename_i v l2 h1 h2;cases h;exact(H.pn h2).add ((H.2.2 _ (oZ h1)).1 (eZ a))
  ·cases h
 |(t,1)::r,l',h=>by
  unfold V.pn at h;split at h
  ·rename_i C v l2 h1 h2;cases hr:yM l C with
   |false=>rw[hr]at h;cases h
   |true=>
    rw[hr]at h;simp only[cond_true,Option.some.injEq]at h;subst h;exact(H.pn h2).add ((H.2.2 _ (oZ h1)).1 (Pq H hr))
  ·cases h
 |(t,k+2)::r,l',h=>by
  unfold V.pn at h;split at h
  ·rename_i C v l2 h1 h2;cases hr:(match C.drop k with
    |p::r=>yM l r&&(match dF l p.1 with
     |some (C',.bool b)=>o4 C' r&&!(b==p.2)
     |_=>false)
    |[]=>false)with
   |false=>rw[hr]at h;cases h
   |true=>
    rw[hr]at h;simp only[cond_true,Option.some.injEq]at h;subst h;exact(H.pn h2).add ((H.2.2 _ (oZ h1)).2 (a4t H k hr))
  ·cases h
section
variable {P:Program} {Q:Exit→Act→World→Prop} {a:Act} {w:World} {n:Nat} {l:SF} {all:List Oper}
def Wx(P:Program)(n:Nat)(all:List Oper)(i j:Nat)(os:List Value)(l:SF)(ks:List (Nat×Nat)):Option (SF×List Ob):=
 match o7 P n all (all.drop i) (j-i) os l with
 |some (l',dS)=>match pn l' ks with
  |some lk=>some (lk,dS)
  |none=>none
 |none=>none
theorem DE(i j:Nat)(os:List Value)(ks:List (Nat×Nat))(lk:SF)(dS:List Ob)(H:ay D n l a)(cY:Nat.ble i j=true)(he:Wx P n all i j os l ks=some (lk,dS))(dm:p6 dS w)
  (hK:∀a' w',ay D n lk a'→Below w.heap.size w w'→wpList P all.toArray Q (all.drop j) a' w'):wpList P all.toArray Q (all.drop i) a w:=by
 unfold Wx at he;split at he
 ·rename_i l' VW h1;split at he
  ·rename_i VX h2;simp only[Option.some.injEq,Prod.mk.injEq]at he;obtain⟨rfl,rfl⟩:=he;refine Gp (j-i) (all.drop i) os l l' _ a w w (Below.rfl' w) h1 dm H ?_;intro a' w' H' hb;have OZ:i≤j:=by simpa using cY
   rw[List.drop_drop,Nat.add_sub_cancel' OZ];exact hK a' w' (H'.pn h2) hb
  ·cases he
 ·cases he
theorem Wy{s:Nat}{j:Nat}{b:Bool}(H:ay D n l a)(hj:(all[j]?).bind (·.dst)=some s)(hs:dF l s=some ([],.bool b)):yielded all.toArray a.tmps j=some b:=by
 unfold yielded;rw[show((all.toArray[j]?).bind (·.dst))=some s from by simpa using hj];have:=(H.2.2 _ (oZ hs)).1 (eZ a);dsimp only at this;simp only[Option.bind_some,this]
theorem Pr{i:Nat}{o:Oper}(ho:all[i]?=some o)(h:wpList P all.toArray Q (o::all.drop (i+1)) a w):wpList P all.toArray Q (all.drop i) a w:=by
 have hl:i<all.length:=(List.getElem?_eq_some_iff.1 ho).1;have he:all[i]=o:=by
  rw[List.getElem?_eq_getElem hl]at ho;exact Option.some.inj ho
 rw[List.drop_eq_getElem_cons hl,he];exact h
theorem Wz{i d j:Nat}{op:Op}{ty:TypeId}{pos:String}{after:Array Edge}{want:Bool}{K:Value→World→Prop}(s:Nat)(ks:List Nat)(lk:SF)(H:ay D n l a)(ho:all[i]?=some ⟨some d,op,ty,pos,after,some (j,want)⟩)
  (hj:(all[j]?).bind (·.dst)=some s)(hg:dF l s=some ([],.bool want))(hd:Nat.blt d n=true)(hs:bc P ⟨some d,op,ty,pos,after,none⟩ a w K)
  (hk:∀v,aV (jC l d [] v) ks=some ((d,[],v)::lk))
  (hK:∀a' w' v,ay D n ((d,[],v)::lk) a'→K v w'→wpList P all.toArray Q (all.drop (i+1)) a' w'):wpList P all.toArray Q (all.drop i) a w:=by
 refine Pr ho ?_;unfold wpList;rw[if_pos (by simp[Region.wanted,Wy H hj hg])];left;exact hs Q _ λv w' hv=>hK _ _ v ((ay.set (H:=H) hd).aV (hk v)) hv
theorem nD{i d j:Nat}{op:Op}{ty:TypeId}{pos:String}{after:Array Edge}{want b:Bool}(s:Nat)(ks:List Nat)(lk:SF)(H:ay D n l a)(ho:all[i]?=some ⟨some d,op,ty,pos,after,some (j,want)⟩)
  (hj:(all[j]?).bind (·.dst)=some s)(hg:dF l s=some ([],.bool b))(hb:(b==want)=false)(hd:Nat.blt d n=true)(hk:aV (jC l d [] undef) ks=some lk)
  (hK:∀a',ay D n lk a'→wpList P all.toArray Q (all.drop (i+1)) a' w):wpList P all.toArray Q (all.drop i) a w:=by
 refine Pr ho ?_;unfold wpList;rw[if_neg (by simp[Region.wanted,Wy H hj hg];intro e;subst e;simp at hb)];exact hK _ ((ay.set (H:=H) hd).aV hk)
theorem a4u{i d j:Nat}{op:Op}{ty:TypeId}{pos:String}{after:Array Edge}{want:Bool}(s:Nat)(ks:List Nat)(lk:SF)(H:ay D n l a)(ho:all[i]?=some ⟨some d,op,ty,pos,after,some (j,want)⟩)
  (hj:(all[j]?).bind (·.dst)=some s)(hg:dF l s=some ([],undef))(hd:Nat.blt d n=true)(hk:aV (jC l d [] undef) ks=some lk)
  (hK:∀a',ay D n lk a'→wpList P all.toArray Q (all.drop (i+1)) a' w):wpList P all.toArray Q (all.drop i) a w:=by
 refine Pr ho ?_;unfold wpList;have hy:yielded all.toArray a.tmps j=none:=by
  unfold yielded;rw[show((all.toArray[j]?).bind (·.dst))=some s from by simpa using hj];have:=(H.2.2 _ (oZ hg)).1 (eZ a);dsimp only at this;simp only[Option.bind_some,this];rfl
 rw[if_neg (by simp[Region.wanted,hy])];exact hK _ ((ay.set (H:=H) hd).aV hk)
end
theorem ay.slot{n:Nat}{l:SF}{a:Act}(H:ay D n l a){t:Nat}{v:Value}(h:dF l t=some ([],v)):a.tmps[t]?=some v:=(H.2.2 _ (oZ h)).1 (eZ a)
section
variable {P:Program} {N R:dx} {ES:List (Nat×dx)} {a:Act} {w:World}
theorem a4v{c:Code}(h:c.wp P (Qs N ES R) a w):(Code.scope c).wp P (Qs N ES R) a w:=
 wp_scope_straight (wp_mono h λe a w q=>by cases e<;>first|exact q|exact q.elim)
theorem a4w{i:Nat}(h:N a w):(Code.label i).wp P (Qs N ES R) a w:=wp_label h
end
theorem a4x{P:Program}(w:World)(t u ty e:TypeId)(i:TypeInfo)(ht:P.underlying t=some (.slice e))(hu:P.underlying u=some .string)(hi:P.info? e=some i)(hz:i.zero=some (.int .u8 0))(Ps:i.size=1)(AK:i.bytes=1)
  (v:Value)(n:Nat)(xs:List Value)(KO:w.ownsRow 0 e 1 v n xs)(s:ByteArray)(Pt:n+s.size≤140737488355328):
  ∃v' w',(Builtin.append_ #[t,u] ty #[v,.string s]).run P w=.ok v' w'∧w'.ownsRow 0 e 1 v' (n+s.size) (xs++Go.Lib.strCells s)∧w.grownBy w' v.ownBlock∧(v'.ownBlock=v.ownBlock∨v'.ownBlock=some w.heap.size):=by
 obtain⟨v',w',hr,h1,h2,h3⟩:=Go.Lib.run_append_own_string w 0 t u ty e i ht hu hi hz Ps AK v n xs KO s (by unfold maxLen;omega) Pt (Nat.zero_le _);refine⟨v',w',hr,h1,h2,?_⟩;have pb:xs.length=n:=by simpa using KO.1
 rcases KO.2 with⟨rfl,rfl⟩|⟨g,cap,fP,rfl,hbg,hg,hnc,wH,lr,a4y⟩
 ·by_cases hm:s.size=0
  ·left;rw[h3.2 ⟨rfl,hm⟩]
  ·right;rw[run_append_nil_string (P:=P) w t u ty e i (.int .u8 0) ht hu hi hz s (by omega) (by omega) (by rw[AK];omega)]at hr;cases hr;rfl
 ·by_cases a4z:n+s.size≤cap
  ·left;rw[Go.Lib.run_append_room_string (P:=P) w t u ty e i ht hu hi Ps g n cap fP hg s a4z (by omega)]at hr;cases hr;rfl
  ·right;rw[Go.Lib.run_append_grow_string (P:=P) w t u ty e i (.int .u8 0) ht hu hi hz ⟨g,0,none⟩ n cap xs (by rw[Ps];simpa using pb) (KO.cells (g:=g) rfl) s (by omega) (by omega) (by rw[AK];exact growslice_fits (by omega) (by omega))]at hr;cases hr;rfl
theorem KP(k:IntKind):∀(l:List Int)(s:Nat→Nat→Gh)(i:Nat),((dC l s i).map (ic (tI k))).flatten=l.map (Value.int k)
 |[],_,_=>rfl
 |x::r,s,i=>by simp only[dC,List.map_cons,List.flatten_cons,KP k r s (i+1)];rfl
theorem a4A(s:List UInt8):Go.Lib.strCells ⟨⟨s⟩⟩=(ax s).map (Value.int .u8):=by simp[Go.Lib.strCells,ax,List.map_map,Function.comp_def]
theorem wI{P:Program}{a:Act}{w:World}{n:Nat}{l:SF}{M:Av}{d:Nat}{s x:Operand}{t u ty e:TypeId}{pos:String}{after:Array Edge}{g1:Gh}{n1 c1:Nat}{a1:Option Addr}{l1:List Int}{str:List UInt8}(q:List Int)(hq:l1++ax str=q)(H:ay D n l a)(hS:S0 M [.own e (tI .u8) l1 g1] w)
  (hs:ev l [] s=some (.slice a1 n1 c1))(hx:ev l [] x=some (.string ⟨⟨str⟩⟩))(lY:g1.a=a1)(iZ:g1.c=c1)(jD:l1.length=n1)
  (hu:P.underlying t=some (.slice e))(qa:P.underlying u=some .string)(hi:(P.info? e).map (λi=>(i.size,i.bytes,i.zero))=some (1,1,some (.int .u8 0)))
  (hl:V.ln l1+V.ln str≤1099511627776):
  bc P ⟨some d,.call ⟨.builtin .append,#[s,x],#[t,u]⟩,ty,pos,after,none⟩ a w λv w'=>∃g:Gh,v=.slice g.a q.length g.c∧SH M (aG [.own e (tI .u8) l1 g1]) w [.own e (tI .u8) q g] w':=by
 subst lY iZ jD hq;have ho:=hS.ow 0 rfl;cases fO:P.info? e with
 |none=>simp[fO]at hi
 |some inf=>
 simp[fO]at hi;obtain⟨h2,h3,h4⟩:=hi;have uk:=ho.ow.row;rw[KP,er]at uk;have gk:(ByteArray.mk ⟨str⟩).size=(ax str).length:=by simp[ax,ByteArray.size]
 have ma:(l1.length:Int)+((ax str).length:Int)≤1099511627776:=by simpa[V.ln,ax]using hl
 obtain⟨v',w',hr,ur,hg,AD⟩:=a4x (P:=P) w t u ty e inf hu qa fO h4 h2 h3 _ l1.length _ uk ⟨⟨str⟩⟩ (by rw[gk];omega);rw[gk,a4A,←List.map_append]at ur;have hlen:(l1++ax str).length=l1.length+(ax str).length:=by simp
 have um:Kp (cR g1.a) w w':=⟨hg.os,hg.tape,hg.output,hg.size,λk hk hx=>hg.block k hk (by
  cases h:g1.a with
  |none=>simp[Value.ownBlock]
  |some x=>rw[h]at hx;simp[cR]at hx;simpa[Value.ownBlock]using hx)⟩
 have fin:∀ar cr,v'=.slice ar (l1.length+(ax str).length) cr→(∀b∈cR ar,b<w'.heap.size)→(ar=g1.a∨cR ar=[w.heap.size])→
   ∃g:Gh,v'=.slice g.a (l1++ax str).length g.c∧SH M (aG [.own e (tI .u8) l1 g1]) w [.own e (tI .u8) (l1++ax str) g] w':=by
  intro ar cr hv aM iY;have oc:Kp (aG [.own e (tI .u8) l1 g1]) w w':=um.wide (by intro b hb;simp only[aG,aj.own,List.mem_append];exact .inl hb);refine⟨.mk ar cr λ_ _=>.nil,by rw[hlen];exact hv,SH.step hS oc (by simp) ?_ ?_⟩
  ·intro b hb;simp only[aG,aj.own,List.append_nil,Gh.a]at hb;rcases iY with h|h
   ·exact .inr (by simp only[aG,aj.own,List.mem_append];exact .inl (h▸hb))
   ·rw[h]at hb;simp at hb;exact .inl (by omega)
  ·intro f hf;rw[List.mem_singleton]at hf;subst hf;refine⟨⟨?_,aM,?_⟩,λi hi=>trivial⟩
   ·rw[er,KP,hlen];rw[hv]at ur;exact ur
   ·rw[er,hlen];omega
 have key:∃g:Gh,v'=.slice g.a (l1++ax str).length g.c∧SH M (aG [.own e (tI .u8) l1 g1]) w [.own e (tI .u8) (l1++ax str) g] w':=by
  rcases ur.2 with⟨h0,h1⟩|⟨g,cap,fP,hv,_,yH,h3',_⟩
  ·refine fin none 0 (by rw[h0,h1]) (by simp[cR]) ?_;left;rcases AD with h|h
   ·rw[h0]at h;cases ha:g1.a with
    |none=>rfl
    |some x=>rw[ha]at h;simp[Value.ownBlock]at h
   ·rw[h0]at h;simp[Value.ownBlock]at h
  ·have yI:g<w'.heap.size:=by
    rcases Nat.lt_or_ge g w'.heap.size with hb|hb
    ·exact hb
    ·rw[Array.getElem?_eq_none hb]at yH;cases yH
   refine fin (some ⟨g,0,none⟩) cap hv (by simp[cR,yI]) ?_;rw[hv]at AD;rcases AD with h|h
   ·left;rcases uk.2 with⟨h0,_⟩|⟨g',_,_,Gu,_⟩
    ·rw[h0]at h;simp[Value.ownBlock]at h
    ·simp only[Value.slice.injEq]at Gu;obtain⟨ha,_⟩:=Gu;rw[ha]at h⊢;simp[Value.ownBlock]at h;rw[h]
   ·right;simp[Value.ownBlock]at h;simp[cR,h]
 refine bc.pa (v:=v') (w':=w') ?_ key;simp only[execOp,resolve,Sem.run_bind,Sem.run_pure,Result.andThen_ok,invoke,builtin,List.map_toArray,List.map_cons,List.map_nil,H.ev (eZ a) hs,H.ev (eZ a) hx,hr]
end
end Go.V
